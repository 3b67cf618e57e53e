/- slices.Grow, slices.Concat, slices.ContainsFunc at boxes; all boxes of a level. -/
import Derived.Test.YtnhjalijnociaaaQad
import Derived.Lib.AppendZeros
import Derived.Deep.AppendLies
import Derived.Test.YtnhjalijnociaaaQaa
import Derived.Laws.Rows
import Derived.Laws.Tables
import Derived.Deep.Cut
/- slices.Grow, slices.Concat, slices.ContainsFunc at boxes; all boxes of a level. -/
namespace Go.Proofs.Ytnhjalijnociaaa
open Go.RowKit

theorem infoBox : (Try.prog.info? 27).map (fun i => (i.zero, i.size, i.bytes)) = some (some (.agg #[.int .i64 0, .int .i64 0, .int .i64 0, .int .i64 0]), 4, 32) := by kernel_rfl
/-- a box's cells; the cells of the first n boxes -/
def Bx.cells (b : Bx) : List Value := [.int .i64 b.lx, .int .i64 b.ly, .int .i64 b.hx, .int .i64 b.hy]
def bvals (f : Nat → Bx) : Nat → List Value
  | 0 => []
  | n + 1 => bvals f n ++ (f n).cells
theorem bvals_len (f : Nat → Bx) : ∀ n, (bvals f n).length = n * 4
  | 0 => rfl
  | n + 1 => by rw [bvals, List.length_append, bvals_len f n]; simp [Bx.cells]; omega
theorem bvals_at (f : Nat → Bx) : ∀ {n i : Nat}, i < n → ∀ {j : Nat}, j < 4 → (bvals f n)[i * 4 + j]? = (f i).cells[j]?
  | 0, _, h, _, _ => absurd h (Nat.not_lt_zero _)
  | n + 1, i, h, j, hj => by
    rw [bvals]
    by_cases e : i = n
    · subst e
      rw [List.getElem?_append_right (by rw [bvals_len]; omega), bvals_len]
      congr 1
      omega
    · rw [List.getElem?_append_left (by rw [bvals_len]; omega)]
      exact bvals_at f (by omega) hj
theorem bvals_one (f : Nat → Bx) : ∀ n, ∀ u ∈ bvals f n, u.oneCell' = true
  | 0, u, h => by cases h
  | n + 1, u, h => by
    rw [bvals, List.mem_append] at h
    rcases h with h | h
    · exact bvals_one f n u h
    · simp only [Bx.cells, List.mem_cons, List.not_mem_nil, or_false] at h
      rcases h with rfl | rfl | rfl | rfl <;> rfl
theorem bvals_congr {f g : Nat → Bx} : ∀ n, (∀ i, i < n → f i = g i) → bvals f n = bvals g n
  | 0, _ => rfl
  | n + 1, h => by rw [bvals, bvals, bvals_congr n (fun i hi => h i (by omega)), h n (by omega)]
theorem bvals_add (f : Nat → Bx) (n : Nat) : ∀ m, bvals f (n + m) = bvals f n ++ bvals (fun i => f (n + i)) m
  | 0 => by simp [bvals]
  | m + 1 => by rw [← Nat.add_assoc, bvals, bvals_add f n m, bvals, List.append_assoc]
theorem bvals_cells {w : World} {b off n : Nat} {f : Nat → Bx} (hc : ∀ i, i < n → BoxCells w b (off + i * 4) (f i)) : ∀ j u, (bvals f n)[j]? = some u → w.cell? ((⟨b, off, none⟩ : Addr).add j) = some u := by
  intro j u hu
  have hj : j < n * 4 := by have := (List.getElem?_eq_some_iff.1 hu).1; rw [bvals_len] at this; omega
  have hi : j / 4 < n := by omega
  obtain ⟨c0, c1, c2, c3⟩ := hc (j / 4) hi
  have e : j = j / 4 * 4 + j % 4 := by omega
  rw [e, bvals_at f hi (by omega)] at hu
  rw [addr_add, e]
  have hm : j % 4 = 0 ∨ j % 4 = 1 ∨ j % 4 = 2 ∨ j % 4 = 3 := by omega
  generalize j / 4 = i at *
  rcases hm with h | h | h | h <;> rw [h] at hu ⊢ <;> simp only [Bx.cells, List.getElem?_cons_zero, List.getElem?_cons_succ, Option.some.injEq] at hu <;> subst hu
  · rw [Nat.add_zero]; exact c0
  · rw [← Nat.add_assoc]; exact c1
  · rw [← Nat.add_assoc]; exact c2
  · rw [← Nat.add_assoc]; exact c3
theorem boxes_own {w : World} {base g n cap : Nat} {f : Nat → Bx} (h : w.ownsRow base 27 4 (.slice (some ⟨g, 0, none⟩) n cap) n (bvals f n)) : BoxesAt w (some ⟨g, 0, none⟩) n f := by
  refine .inr ⟨g, 0, rfl, ?_, fun i hi => ?_⟩
  · rcases h.2 with ⟨h', _⟩ | ⟨g', cap', cur, h', _, hg, _⟩
    · simp at h'
    · simp only [Value.slice.injEq, Option.some.injEq, Addr.mk.injEq, and_true] at h'
      obtain ⟨rfl, _⟩ := h'
      exact (Array.getElem?_eq_some_iff.1 hg).1
  · rw [Nat.zero_add]
    have h0 := h.cellAt (i * 4) (by omega)
    have h1 := h.cellAt (i * 4 + 1) (by omega)
    have h2 := h.cellAt (i * 4 + 2) (by omega)
    have h3 := h.cellAt (i * 4 + 3) (by omega)
    have b0 := bvals_at f hi (j := 0) (by omega)
    rw [Nat.add_zero] at b0
    rw [b0] at h0
    rw [bvals_at f hi (by omega)] at h1 h2 h3
    exact ⟨h0, h1, h2, h3⟩

theorem run_app_none {P : Program} {w : World} (base : Nat) (t ty e : TypeId) (i : TypeInfo) (size c : Nat) (ht : P.underlying t = some (.slice e)) (hi : P.info? e = some i)
    (v : Value) (n : Nat) (xs : List Value) (hown : w.ownsRow base e size v n xs) : (Builtin.append_ #[t, t] ty #[v, .slice none 0 c]).run P w = .ok v w := by
  rcases hown.2 with ⟨rfl, rfl⟩ | ⟨g, cap, cur, rfl, _, _, hnc, _⟩
  · simp [Builtin.append_, run_underlying ht, sizeOf, typeInfo, hi, Builtin.lenOf, Builtin.firstCells]
  · simp [Builtin.append_, run_underlying ht, sizeOf, typeInfo, hi, Builtin.lenOf, Builtin.firstCells, hnc, storeCells]
set_option maxRecDepth 100000 in
theorem app_boxes {w : World} {ops : Array Oper} {rest : List Oper} {o : Oper} {a : Act} {Q : Exit → Act → World → Prop} (hgd : o.guard = none) (s x : Operand)
    (ho : o.op = .call { callee := .builtin .append, args := #[s, x], argTypes := #[25, 25] }) (base : Nat) (v : Value) (n : Nat) (xs : List Value) (hs : a.eval s = v) (hown : w.ownsRow base 27 4 v n xs)
    (A : Option Addr) (m c : Nat) (f : Nat → Bx) (hx : a.eval x = .slice A m c) (hB : BoxesAt w A m f) (hbd : n + m ≤ 100000) (hbase : base ≤ w.heap.size)
    (h : ∀ v' w', w'.ownsRow base 27 4 v' (n + m) (xs ++ bvals f m) → w.grownBy w' v.ownBlock → (v' = .slice none 0 0 ↔ v = .slice none 0 0 ∧ m = 0) → wpList Try.prog ops Q rest (a.put o.dst v') w') : wpList Try.prog ops Q (o :: rest) a w := by
  obtain ⟨i0, hii, hiz, his, hib⟩ := info_parts infoBox
  cases A with
  | none =>
    have hm : m = 0 := by
      rcases hB with hB | ⟨b, off, ha, _⟩
      · exact hB
      · cases ha
    subst hm
    have hrun := run_app_none (P := Try.prog) base 25 o.type 27 i0 4 c Try.underlying25 hii v n xs hown
    exact Lib.wpList_append_run w hgd s x _ _ ho _ _ hs hx _ _ hrun (h v w (by simpa [bvals] using hown) ⟨rfl, rfl, rfl, Nat.le_refl _, fun _ _ _ => rfl⟩ (by simp))
  | some ad =>
    rcases hB with hB | ⟨b, off, ha, hlt, hc⟩
    · subst hB
      exact wpList_append_own w hgd s x _ ho base 27 i0 _ 4 32 Try.underlying25 hii hiz his hib rfl (by decide) v n xs hs hown ad 0 c [] hx rfl (by simp) (by simp) (by unfold maxLen; omega) (by omega) hbase h
    · cases ha
      exact wpList_append_own w hgd s x _ ho base 27 i0 _ 4 32 Try.underlying25 hii hiz his hib rfl (by decide) v n xs hs hown _ m c (bvals f m) hx (bvals_len f m) (bvals_cells hc) (bvals_one f m) (by unfold maxLen; omega) (by omega) hbase h

/-- a new empty row of boxes -/
def NewRow (w : World) (e : Ending) (w' : World) : Prop :=
  ∃ cap, e = .returned (.slice (some ⟨w.heap.size, 0, none⟩) 0 cap) ∧ w'.ownsRow w.heap.size 27 4 (.slice (some ⟨w.heap.size, 0, none⟩) 0 cap) 0 [] ∧ Below w.heap.size w w'
set_option maxRecDepth 100000 in
set_option maxHeartbeats 1000000 in
theorem grow_any (n : Nat) (w : World) (h1 : 1 ≤ n) (h2 : n ≤ 100000) : Calls Try.prog 140 #[.slice none 0 0, .int .i64 n] w (NewRow w) := by
  obtain ⟨i0, hii, hiz, his, hib⟩ := info_parts infoBox
  have hrun := Lib.run_append_nil_zeros (P := Try.prog) w 25 3 25 27 i0 _ .i64 .i64 Try.underlying25 Try.underlying3 hii hiz n h1 (by rw [his]; omega) (by omega) (by rw [hib]; omega)
  have hge := grownCap_ge w n 0 27
  have hcm := grownCap_le_maxLen w n 0 27 (by unfold maxLen; omega)
  go_enter Try.func140, Try.ntmps140
  go_wp2_with (at_builtin; refine Lib.wpList_append_run _ rfl _ _ _ _ rfl _ _ rfl rfl _ _ hrun ?_)
  refine bodyPost_ret (by simp [results, Try.results140, go_sem]; try rfl) rfl ?_
  refine ⟨grownCap w n 0 27, rfl, ?_, by (repeat (first | with_reducible assumption | with_reducible exact Below.refl _ _ | ((with_reducible refine Below.alloc ?_ ?_ _); rotate_left; · exact (by first | omega | (simp; done) | (simp; omega))) | ((with_reducible refine Below.setCell ?_ ?_ _); rotate_left; · exact (by first | omega | (simp; done) | (simp; omega))) | with_reducible refine Below.drew ?_ | assumption | exact Below.refl _ _ | refine Below.alloc ?_ (by first | omega | (simp; done) | (simp; omega)) _ | refine Below.setCell ?_ (by first | omega | (simp; done) | (simp; omega)) _ | refine Below.drew ?_))⟩
  exact World.ownsRow_made w.drew _ _ (Nat.le_refl _) hcm (by simp only [Array.size_append, size_zeroCells]; rw [← Nat.add_mul]; show (n + (grownCap w n 0 27 - n)) * 4 = _; congr 1; omega)

theorem grow_int (z : Int) (w : World) (h1 : 1 ≤ z) (h2 : z ≤ 100000) : Calls Try.prog 140 #[.slice none 0 0, .int .i64 z] w (NewRow w) := by
  obtain ⟨n, rfl⟩ := Int.eq_ofNat_of_zero_le (show 0 ≤ z by omega)
  exact grow_any n w (by omega) (by omega)
/-- the boxes of a level: its walls, its gates, its finish -/
def allB (wf gf : Nat → Bx) (wn gn : Nat) (fin : Bx) (i : Nat) : Bx := if i < wn then wf i else if i < wn + gn then gf (i - wn) else fin
theorem allB_vals (wf gf : Nat → Bx) (wn gn : Nat) (fin : Bx) : bvals (allB wf gf wn gn fin) (wn + gn + 1) = (bvals wf wn ++ bvals gf gn) ++ fin.cells := by
  rw [bvals, bvals_add]
  congr 1
  · congr 1
    · exact bvals_congr _ fun i hi => by simp [allB, hi]
    · refine bvals_congr _ fun i hi => ?_
      have h1 : ¬ (wn + i < wn) := by omega
      have h2 : wn + i < wn + gn := by omega
      have h3 : wn + i - wn = i := by omega
      simp [allB, h1, h2, h3]
  · have h1 : ¬ (wn + gn < wn) := by omega
    have h2 : ¬ (wn + gn < wn + gn) := by omega
    simp only [allB, if_neg h1, if_neg h2]
/-- a new slice of n boxes -/
def NewBoxes (n : Nat) (f : Nat → Bx) (w : World) (e : Ending) (w' : World) : Prop :=
  ∃ g cap, e = .returned (.slice (some ⟨g, 0, none⟩) n cap) ∧ BoxesAt w' (some ⟨g, 0, none⟩) n f ∧ w.heap.size ≤ g ∧ g < w'.heap.size ∧ Below w.heap.size w w'
set_option maxRecDepth 100000 in
set_option maxHeartbeats 4000000 in
theorem concat_any (P : Nat) (wa ga fa : Option Addr) (wn wc gn gc : Nat) (wf gf ff : Nat → Bx) (w : World) (hP : P < w.heap.size) (h0 : w.cell? ⟨P, 0, none⟩ = some (.slice wa wn wc)) (h1 : w.cell? ⟨P, 1, none⟩ = some (.slice ga gn gc)) (h2 : w.cell? ⟨P, 2, none⟩ = some (.slice fa 1 1))
    (hw : BoxesAt w wa wn wf) (hg : BoxesAt w ga gn gf) (hf : BoxesAt w fa 1 ff) (hwn : wn ≤ 10000) (hgn : gn ≤ 10000) :
    Calls Try.prog 129 #[.slice (some ⟨P, 0, none⟩) 3 3] w (NewBoxes (wn + gn + 1) (allB wf gf wn gn (ff 0)) w) := by
  go_enter Try.func129, Try.ntmps129
  go_wp2_with fail
  refine wp_loop_rounds 5 ?_
  rw [rounds_succ]
  go_wp2_with fail
  rw [rounds_succ]
  go_wp2_with fail
  rw [rounds_succ]
  go_wp2_with fail
  rw [rounds_succ]
  go_wp2_with fail
  refine (grow_int _ _ (by omega) (by omega)).mono ?_
  rintro e w1 ⟨cap, rfl, hown1, hB1⟩
  have hz1 : w.heap.size ≤ w1.heap.size := hB1.size
  have p0 := (hB1.cell (p := ⟨P, 0, none⟩) hP).trans h0
  go_wp2_with fail
  refine wp_loop_rounds 5 ?_
  rw [rounds_succ]
  go_wp2_with (at_builtin; refine app_boxes rfl _ _ rfl w.heap.size _ _ _ rfl hown1 wa wn wc wf rfl (hw.keep hB1) (by omega) hz1 ?_; intro v2 w2 hown2 hgrow2 hnil2; have hB2 : Below w.heap.size w w2 := hB1.grown hgrow2 hz1 (fun b hb => (hown1.lt b hb).1); have p1 := (hB2.cell (p := ⟨P, 1, none⟩) hP).trans h1; have hz2 : w.heap.size ≤ w2.heap.size := hB2.size)
  rw [rounds_succ]
  go_wp2_with (at_builtin; refine app_boxes rfl _ _ rfl w.heap.size _ _ _ rfl hown2 ga gn gc gf rfl (hg.keep hB2) (by omega) hz2 ?_; intro v3 w3 hown3 hgrow3 hnil3; have hB3 : Below w.heap.size w w3 := hB2.grown hgrow3 hz2 (fun b hb => (hown2.lt b hb).1); have p2 := (hB3.cell (p := ⟨P, 2, none⟩) hP).trans h2; have hz3 : w.heap.size ≤ w3.heap.size := hB3.size)
  rw [rounds_succ]
  go_wp2_with (at_builtin; refine app_boxes rfl _ _ rfl w.heap.size _ _ _ rfl hown3 fa 1 1 ff rfl (hf.keep hB3) (by omega) hz3 ?_; intro v4 w4 hown4 hgrow4 hnil4; have hB4 : Below w.heap.size w w4 := hB3.grown hgrow4 hz3 (fun b hb => (hown3.lt b hb).1))
  rw [rounds_succ]
  go_wp2_with fail
  go_wp2
  go_ret
  have hlt := hown4.lt
  simp only [Nat.zero_add, List.nil_append] at hown4
  have hv : bvals wf wn ++ bvals gf gn ++ bvals ff 1 = bvals (allB wf gf wn gn (ff 0)) (wn + gn + 1) := by rw [allB_vals]; rfl
  rw [hv] at hown4
  rcases hown4.2 with ⟨_, hn0⟩ | ⟨g, cap4, cur, rfl, _⟩
  · omega
  · exact ⟨g, cap4, rfl, boxes_own hown4, (hlt g rfl).1, (hlt g rfl).2, hB4⟩
set_option maxRecDepth 100000 in
set_option maxHeartbeats 1000000 in
theorem iBoxes (l : Lv) (w : World) (hl : LvAt w l) (hwn : l.wn ≤ 10000) (hgn : l.gn ≤ 10000) : Calls Try.prog 111 #[.agg #[.int .i64 l.id, .int .i64 l.ticks, .int .i64 l.sx, .int .i64 l.sy, .slice l.wa l.wn l.wc, .slice l.ga l.gn l.gc, .int .i64 l.flx, .int .i64 l.fly, .int .i64 l.fhx, .int .i64 l.fhy, .int .i64 l.bans]] w (NewBoxes (l.wn + l.gn + 1) (allB l.wf l.gf l.wn l.gn ⟨l.flx, l.fly, l.fhx, l.fhy⟩) w) := by
  obtain ⟨hw, hg⟩ := hl
  go_enter Try.func111, Try.ntmps111
  go_wp2_with fail
  refine (concat_any (w.heap.size + 1 + 1) l.wa l.ga (some ⟨w.heap.size + 1, 0, none⟩) l.wn l.wc l.gn l.gc l.wf l.gf (fun _ => ⟨l.flx, l.fly, l.fhx, l.fhy⟩) _ (by simp) (by simp [go_sem]) (by simp [go_sem]) (by simp [go_sem]) (hw.keep (by (repeat (first | with_reducible assumption | with_reducible exact Below.refl _ _ | ((with_reducible refine Below.alloc ?_ ?_ _); rotate_left; · exact (by first | omega | (simp; done) | (simp; omega))) | ((with_reducible refine Below.setCell ?_ ?_ _); rotate_left; · exact (by first | omega | (simp; done) | (simp; omega))) | with_reducible refine Below.drew ?_ | assumption | exact Below.refl _ _ | refine Below.alloc ?_ (by first | omega | (simp; done) | (simp; omega)) _ | refine Below.setCell ?_ (by first | omega | (simp; done) | (simp; omega)) _ | refine Below.drew ?_)))) (hg.keep (by (repeat (first | with_reducible assumption | with_reducible exact Below.refl _ _ | ((with_reducible refine Below.alloc ?_ ?_ _); rotate_left; · exact (by first | omega | (simp; done) | (simp; omega))) | ((with_reducible refine Below.setCell ?_ ?_ _); rotate_left; · exact (by first | omega | (simp; done) | (simp; omega))) | with_reducible refine Below.drew ?_ | assumption | exact Below.refl _ _ | refine Below.alloc ?_ (by first | omega | (simp; done) | (simp; omega)) _ | refine Below.setCell ?_ (by first | omega | (simp; done) | (simp; omega)) _ | refine Below.drew ?_)))) (.inr ⟨w.heap.size + 1, 0, rfl, (by first | omega | (simp; done) | (simp; omega)), fun i hi => by
    obtain rfl : i = 0 := by omega
    simp [BoxCells, go_sem]⟩) hwn hgn).mono ?_
  rintro e w1 ⟨g, cap, rfl, hbx, hg1, hg2, hb1⟩
  have hB1 : Below w.heap.size w w1 := bstep (by (repeat (first | with_reducible assumption | with_reducible exact Below.refl _ _ | ((with_reducible refine Below.alloc ?_ ?_ _); rotate_left; · exact (by first | omega | (simp; done) | (simp; omega))) | ((with_reducible refine Below.setCell ?_ ?_ _); rotate_left; · exact (by first | omega | (simp; done) | (simp; omega))) | with_reducible refine Below.drew ?_ | assumption | exact Below.refl _ _ | refine Below.alloc ?_ (by first | omega | (simp; done) | (simp; omega)) _ | refine Below.setCell ?_ (by first | omega | (simp; done) | (simp; omega)) _ | refine Below.drew ?_))) (by first | omega | (simp; done) | (simp; omega)) hb1
  have hg1 : w.heap.size ≤ g := by simp at hg1; omega
  go_wp2
  go_ret
  exact ⟨g, cap, rfl, hbx, hg1, hg2, hB1⟩
/-- the first box that is not valid -/
def IdxInts (ok : Bool) (w : World) (e : Ending) (w' : World) : Prop := ∃ z : Int, e = .returned (.int .i64 z) ∧ (ok = true → z = -1) ∧ (ok = false → 0 ≤ z) ∧ Below w.heap.size w w'
set_option maxHeartbeats 400000 in
theorem notValid (lx ly hx hy : Int) (w : World) : Calls Try.prog 112 #[.agg #[.int .i64 lx, .int .i64 ly, .int .i64 hx, .int .i64 hy]] w fun e w' => e = .returned (.bool (!bxB lx ly hx hy)) ∧ Below w.heap.size w w' := by
  go_enter Try.func112, Try.ntmps112
  go_wp2_with fail; refine (iBoxValid _ _ _ _ _).mono ?_; rintro e w1 ⟨rfl, hb1⟩; obtain ⟨hc1, hf1⟩ := bcell hb1; have hz1 : w.heap.size < w1.heap.size := (by have := hb1.size; first | omega | (simp at this; omega)); have hy1 : w.heap.size < w1.heap.size + 1 := Nat.lt_succ_of_lt hz1; have hB1 : Below w.heap.size w w1 := bstep (by (repeat (first | with_reducible assumption | with_reducible exact Below.refl _ _ | ((with_reducible refine Below.alloc ?_ ?_ _); rotate_left; · exact (by first | omega | (simp; done) | (simp; omega))) | ((with_reducible refine Below.setCell ?_ ?_ _); rotate_left; · exact (by first | omega | (simp; done) | (simp; omega))) | with_reducible refine Below.drew ?_ | assumption | exact Below.refl _ _ | refine Below.alloc ?_ (by first | omega | (simp; done) | (simp; omega)) _ | refine Below.setCell ?_ (by first | omega | (simp; done) | (simp; omega)) _ | refine Below.drew ?_))) (by first | omega | (simp; done) | (simp; omega)) hb1
  go_wp2
  go_ret
  exact ⟨rfl, by (repeat (first | with_reducible assumption | with_reducible exact Below.refl _ _ | ((with_reducible refine Below.alloc ?_ ?_ _); rotate_left; · exact (by first | omega | (simp; done) | (simp; omega))) | ((with_reducible refine Below.setCell ?_ ?_ _); rotate_left; · exact (by first | omega | (simp; done) | (simp; omega))) | with_reducible refine Below.drew ?_ | assumption | exact Below.refl _ _ | refine Below.alloc ?_ (by first | omega | (simp; done) | (simp; omega)) _ | refine Below.setCell ?_ (by first | omega | (simp; done) | (simp; omega)) _ | refine Below.drew ?_))⟩
set_option maxRecDepth 100000 in
set_option maxHeartbeats 1000000 in
theorem idx_any (a : Option Addr) (n c : Nat) (f : Nat → Bx) (w : World) (hn : n ≤ 1099511627776) (hl : BoxesAt w a n f) : Calls Try.prog 128 #[.slice a n c, .func (.func 112) #[] #[]] w (IdxInts (bxsB f n) w) := by
  go_enter Try.func128, Try.ntmps128
  go_wp2
  go_loopw [5, 8] (fun _ i wr => ∃ k : Nat, k ≤ n ∧ i = .int .i64 k ∧ bxsB f k = true ∧ Below w.heap.size w wr) (fun _ i _ => n - (intOf i).toNat)
  case atStart => exact ⟨0, Nat.zero_le _, rfl, rfl, Below.refl _ _⟩
  case round =>
    obtain ⟨k, hk, rfl, hfr, hB⟩ := hrel
    have hFr := Lib.hid hfr
    clear hfr
    by_cases hlt : k < n
    · obtain ⟨b, off, rfl, hbl, hcs⟩ := hl.resolve_left (by omega)
      obtain ⟨g0, g1, g2, g3⟩ := hcs k hlt
      have e0 := (hB.cell (p := ⟨b, off + k * 4, none⟩) hbl).trans g0
      have e1 := (hB.cell (p := ⟨b, off + k * 4 + 1, none⟩) hbl).trans g1
      have e2 := (hB.cell (p := ⟨b, off + k * 4 + 2, none⟩) hbl).trans g2
      have e3 := (hB.cell (p := ⟨b, off + k * 4 + 3, none⟩) hbl).trans g3
      clear g0 g1 g2 g3
      have q1 : (0 : Int) ≤ (k : Int) := by omega
      have q2 : (k : Int) < (n : Int) := by omega
      have hL := Lib.hid hl
      have hCs := Lib.hid hcs
      clear hcs hl
      go_wp2_with fail
      refine (notValid (f k).lx (f k).ly (f k).hx (f k).hy _).mono ?_
      rintro e w1 ⟨rfl, hb1⟩
      cases ht : bxB (f k).lx (f k).ly (f k).hx (f k).hy with
      | false =>
        go_wp2
        go_ret
        exact ⟨k, rfl, (fun h => by rw [bxsB_no ((Bx.ok_eq _).trans ht) _ hlt] at h; cases h), fun _ => by omega, hB.trans (hb1.mono hB.size)⟩
      | true =>
        go_wp2
        go_roundw
        case rel => exact ⟨k + 1, by omega, by go_num, bxsB_yes hFr.out ((Bx.ok_eq _).trans ht), hB.trans (hb1.mono hB.size)⟩
        case measure => simp [intOf]; omega
    · obtain rfl : k = n := by omega
      go_wp2
      go_ret
      exact ⟨-1, rfl, fun _ => rfl, (fun h => by rw [hFr.out] at h; cases h), hB⟩
set_option maxHeartbeats 400000 in
theorem contains_any (a : Option Addr) (n c : Nat) (f : Nat → Bx) (w : World) (hn : n ≤ 1099511627776) (hl : BoxesAt w a n f) : Calls Try.prog 110 #[.slice a n c, .func (.func 112) #[] #[]] w fun e w' => e = .returned (.bool (!bxsB f n)) ∧ Below w.heap.size w w' := by
  go_enter Try.func110, Try.ntmps110
  go_wp2_with fail
  refine (idx_any _ _ _ f _ hn hl).mono ?_
  rintro e w1 ⟨z, rfl, h1, h2, hb1⟩
  cases hx : bxsB f n with
  | true =>
    obtain rfl := h1 hx
    clear h1 h2
    go_wp2
    go_ret
    exact ⟨ret_bool (by simp [hx]), hb1⟩
  | false =>
    have h2 := h2 hx
    clear h1
    go_wp2
    go_ret
    exact ⟨ret_bool (by simp [hx]), hb1⟩
end Go.Proofs.Ytnhjalijnociaaa

/- Blocks of cells as wholes: what a walk keeps of a struct between two calls. -/
set_option linter.unusedVariables false
namespace Go.Proofs.Ytnhjalijnociaaa
open Go.RowKit

/-- a block holds these cells -/
def Blk (w : World) (b : Nat) (cs : Array Value) : Prop := ∃ t, w.heap[b]? = some (.cells cs t (0, 0))
theorem Blk.cell {w : World} {b : Nat} {cs : Array Value} (h : Blk w b cs) (o : Nat) : w.cell? ⟨b, o, none⟩ = cs[o]? := by
  obtain ⟨t, h⟩ := h
  exact cell_of_row w b o cs t (0, 0) h
theorem Blk.frozen {w : World} {b : Nat} {cs : Array Value} (h : Blk w b cs) (o : Nat) : w.frozen? ⟨b, o, none⟩ = false := by
  obtain ⟨t, h⟩ := h
  exact frozen_of_row w b o cs t h
theorem Blk.lt {w : World} {b : Nat} {cs : Array Value} (h : Blk w b cs) : b < w.heap.size := by
  obtain ⟨t, h⟩ := h
  exact (Array.getElem?_eq_some_iff.1 h).1
theorem Blk.new (w : World) (cs : Array Value) (t : TypeId) : Blk (w.alloc (.cells cs t)) w.heap.size cs := ⟨t, heap_alloc_new w _⟩
theorem Blk.at {w : World} {cs : Array Value} {t : TypeId} {b : Nat} (hb : w.heap.size = b) : Blk (w.alloc (.cells cs t)) b cs := by
  subst hb
  exact Blk.new w cs t
theorem Blk.keep {w w' : World} {b : Nat} {cs : Array Value} (h : Blk w b cs) (e : w'.heap[b]? = w.heap[b]?) : Blk w' b cs := by
  obtain ⟨t, h⟩ := h
  exact ⟨t, e.trans h⟩
theorem Blk.below {w w' : World} {b B : Nat} {cs : Array Value} (h : Blk w b cs) (hb : Below B w w') (hlt : b < B) : Blk w' b cs := h.keep (hb.block b hlt)
theorem Blk.up {w w' : World} {b B R : Nat} {cs : Array Value} (h : Blk w b cs) (hb : Up R B w w') (hlt : b < B) (hne : b ≠ R) : Blk w' b cs := h.keep (hb.block b hlt hne)
theorem Blk.alloc {w : World} {b : Nat} {cs : Array Value} (h : Blk w b cs) (o : Obj) : Blk (w.alloc o) b cs := h.below ((Below.refl w.heap.size w).alloc (Nat.le_refl _) o) h.lt
theorem Blk.other {w : World} {b : Nat} {cs : Array Value} (h : Blk w b cs) {p : Addr} (hne : b ≠ p.block) (v : Value) : Blk (w.setCell p v) b cs := h.keep (heap_setCell_other w p b v hne)
theorem Blk.set {w : World} {b : Nat} {cs : Array Value} (h : Blk w b cs) (i : Nat) (v : Value) : Blk (w.setCell ⟨b, i, none⟩ v) b (cs.setIfInBounds i v) := by
  obtain ⟨t, h⟩ := h
  exact ⟨t, heap_setCell_same w b i cs t v h⟩
theorem Below.setRow {B : Nat} {a w : World} (h : Below B a w) {g : Nat} (hB : B ≤ g) (c : Array Value) : Below B a (w.setRow g c) :=
  h.trans ⟨rfl, rfl, rfl, by simp, fun k hk => setRow_other w g k c (by omega)⟩
theorem Up.setRow {R B : Nat} {a w : World} (h : Up R B a w) {g : Nat} (hB : B ≤ g) (c : Array Value) : Up R B a (w.setRow g c) :=
  h.trans (Up.of_below (Below.setRow (Below.refl B w) hB c))
theorem Blk.row {w : World} {b : Nat} {cs : Array Value} (h : Blk w b cs) (c : Array Value) : Blk (w.setRow b c) b c := by
  obtain ⟨t, h⟩ := h
  exact ⟨t, setRow_heap w b cs c t _ h⟩
theorem Blk.rowOther {w : World} {b : Nat} {cs : Array Value} (h : Blk w b cs) {g : Nat} (hne : b ≠ g) (c : Array Value) : Blk (w.setRow g c) b cs := h.keep (setRow_other w g b c hne)
theorem Blk.c2 {w : World} {b : Nat} {a0 a1 : Value} (h : Blk w b #[a0, a1]) : w.cell? ⟨b, 0, none⟩ = some a0 ∧ w.cell? ⟨b, 1, none⟩ = some a1 := ⟨h.cell 0, h.cell 1⟩
theorem Blk.c4 {w : World} {b : Nat} {a0 a1 a2 a3 : Value} (h : Blk w b #[a0, a1, a2, a3]) : w.cell? ⟨b, 0, none⟩ = some a0 ∧ w.cell? ⟨b, 1, none⟩ = some a1 ∧ w.cell? ⟨b, 2, none⟩ = some a2 ∧ w.cell? ⟨b, 3, none⟩ = some a3 := ⟨h.cell 0, h.cell 1, h.cell 2, h.cell 3⟩
theorem Blk.c9 {w : World} {b : Nat} {a0 a1 a2 a3 a4 a5 a6 a7 a8 : Value} (h : Blk w b #[a0, a1, a2, a3, a4, a5, a6, a7, a8]) : w.cell? ⟨b, 0, none⟩ = some a0 ∧ w.cell? ⟨b, 1, none⟩ = some a1 ∧ w.cell? ⟨b, 2, none⟩ = some a2 ∧ w.cell? ⟨b, 3, none⟩ = some a3 ∧ w.cell? ⟨b, 4, none⟩ = some a4 ∧ w.cell? ⟨b, 5, none⟩ = some a5 ∧ w.cell? ⟨b, 6, none⟩ = some a6 ∧ w.cell? ⟨b, 7, none⟩ = some a7 ∧ w.cell? ⟨b, 8, none⟩ = some a8 := ⟨h.cell 0, h.cell 1, h.cell 2, h.cell 3, h.cell 4, h.cell 5, h.cell 6, h.cell 7, h.cell 8⟩
theorem Blk.c11 {w : World} {b : Nat} {a0 a1 a2 a3 a4 a5 a6 a7 a8 a9 a10 : Value} (h : Blk w b #[a0, a1, a2, a3, a4, a5, a6, a7, a8, a9, a10]) : w.cell? ⟨b, 0, none⟩ = some a0 ∧ w.cell? ⟨b, 1, none⟩ = some a1 ∧ w.cell? ⟨b, 2, none⟩ = some a2 ∧ w.cell? ⟨b, 3, none⟩ = some a3 ∧ w.cell? ⟨b, 4, none⟩ = some a4 ∧ w.cell? ⟨b, 5, none⟩ = some a5 ∧ w.cell? ⟨b, 6, none⟩ = some a6 ∧ w.cell? ⟨b, 7, none⟩ = some a7 ∧ w.cell? ⟨b, 8, none⟩ = some a8 ∧ w.cell? ⟨b, 9, none⟩ = some a9 ∧ w.cell? ⟨b, 10, none⟩ = some a10 := ⟨h.cell 0, h.cell 1, h.cell 2, h.cell 3, h.cell 4, h.cell 5, h.cell 6, h.cell 7, h.cell 8, h.cell 9, h.cell 10⟩
theorem Blk.s2_0 {w : World} {b : Nat} {a0 a1 : Value} (h : Blk w b #[a0, a1]) (v : Value) : Blk (w.setCell ⟨b, 0, none⟩ v) b #[v, a1] := h.set 0 v
theorem Blk.s2_1 {w : World} {b : Nat} {a0 a1 : Value} (h : Blk w b #[a0, a1]) (v : Value) : Blk (w.setCell ⟨b, 1, none⟩ v) b #[a0, v] := h.set 1 v
theorem Blk.s4_0 {w : World} {b : Nat} {a0 a1 a2 a3 : Value} (h : Blk w b #[a0, a1, a2, a3]) (v : Value) : Blk (w.setCell ⟨b, 0, none⟩ v) b #[v, a1, a2, a3] := h.set 0 v
theorem Blk.s4_1 {w : World} {b : Nat} {a0 a1 a2 a3 : Value} (h : Blk w b #[a0, a1, a2, a3]) (v : Value) : Blk (w.setCell ⟨b, 1, none⟩ v) b #[a0, v, a2, a3] := h.set 1 v
theorem Blk.s4_2 {w : World} {b : Nat} {a0 a1 a2 a3 : Value} (h : Blk w b #[a0, a1, a2, a3]) (v : Value) : Blk (w.setCell ⟨b, 2, none⟩ v) b #[a0, a1, v, a3] := h.set 2 v
theorem Blk.s4_3 {w : World} {b : Nat} {a0 a1 a2 a3 : Value} (h : Blk w b #[a0, a1, a2, a3]) (v : Value) : Blk (w.setCell ⟨b, 3, none⟩ v) b #[a0, a1, a2, v] := h.set 3 v
theorem Blk.s9_0 {w : World} {b : Nat} {a0 a1 a2 a3 a4 a5 a6 a7 a8 : Value} (h : Blk w b #[a0, a1, a2, a3, a4, a5, a6, a7, a8]) (v : Value) : Blk (w.setCell ⟨b, 0, none⟩ v) b #[v, a1, a2, a3, a4, a5, a6, a7, a8] := h.set 0 v
theorem Blk.s9_1 {w : World} {b : Nat} {a0 a1 a2 a3 a4 a5 a6 a7 a8 : Value} (h : Blk w b #[a0, a1, a2, a3, a4, a5, a6, a7, a8]) (v : Value) : Blk (w.setCell ⟨b, 1, none⟩ v) b #[a0, v, a2, a3, a4, a5, a6, a7, a8] := h.set 1 v
theorem Blk.s9_2 {w : World} {b : Nat} {a0 a1 a2 a3 a4 a5 a6 a7 a8 : Value} (h : Blk w b #[a0, a1, a2, a3, a4, a5, a6, a7, a8]) (v : Value) : Blk (w.setCell ⟨b, 2, none⟩ v) b #[a0, a1, v, a3, a4, a5, a6, a7, a8] := h.set 2 v
theorem Blk.s9_3 {w : World} {b : Nat} {a0 a1 a2 a3 a4 a5 a6 a7 a8 : Value} (h : Blk w b #[a0, a1, a2, a3, a4, a5, a6, a7, a8]) (v : Value) : Blk (w.setCell ⟨b, 3, none⟩ v) b #[a0, a1, a2, v, a4, a5, a6, a7, a8] := h.set 3 v
theorem Blk.s9_4 {w : World} {b : Nat} {a0 a1 a2 a3 a4 a5 a6 a7 a8 : Value} (h : Blk w b #[a0, a1, a2, a3, a4, a5, a6, a7, a8]) (v : Value) : Blk (w.setCell ⟨b, 4, none⟩ v) b #[a0, a1, a2, a3, v, a5, a6, a7, a8] := h.set 4 v
theorem Blk.s9_5 {w : World} {b : Nat} {a0 a1 a2 a3 a4 a5 a6 a7 a8 : Value} (h : Blk w b #[a0, a1, a2, a3, a4, a5, a6, a7, a8]) (v : Value) : Blk (w.setCell ⟨b, 5, none⟩ v) b #[a0, a1, a2, a3, a4, v, a6, a7, a8] := h.set 5 v
theorem Blk.s9_6 {w : World} {b : Nat} {a0 a1 a2 a3 a4 a5 a6 a7 a8 : Value} (h : Blk w b #[a0, a1, a2, a3, a4, a5, a6, a7, a8]) (v : Value) : Blk (w.setCell ⟨b, 6, none⟩ v) b #[a0, a1, a2, a3, a4, a5, v, a7, a8] := h.set 6 v
theorem Blk.s9_7 {w : World} {b : Nat} {a0 a1 a2 a3 a4 a5 a6 a7 a8 : Value} (h : Blk w b #[a0, a1, a2, a3, a4, a5, a6, a7, a8]) (v : Value) : Blk (w.setCell ⟨b, 7, none⟩ v) b #[a0, a1, a2, a3, a4, a5, a6, v, a8] := h.set 7 v
theorem Blk.s9_8 {w : World} {b : Nat} {a0 a1 a2 a3 a4 a5 a6 a7 a8 : Value} (h : Blk w b #[a0, a1, a2, a3, a4, a5, a6, a7, a8]) (v : Value) : Blk (w.setCell ⟨b, 8, none⟩ v) b #[a0, a1, a2, a3, a4, a5, a6, a7, v] := h.set 8 v
theorem Blk.s11_0 {w : World} {b : Nat} {a0 a1 a2 a3 a4 a5 a6 a7 a8 a9 a10 : Value} (h : Blk w b #[a0, a1, a2, a3, a4, a5, a6, a7, a8, a9, a10]) (v : Value) : Blk (w.setCell ⟨b, 0, none⟩ v) b #[v, a1, a2, a3, a4, a5, a6, a7, a8, a9, a10] := h.set 0 v
theorem Blk.s11_1 {w : World} {b : Nat} {a0 a1 a2 a3 a4 a5 a6 a7 a8 a9 a10 : Value} (h : Blk w b #[a0, a1, a2, a3, a4, a5, a6, a7, a8, a9, a10]) (v : Value) : Blk (w.setCell ⟨b, 1, none⟩ v) b #[a0, v, a2, a3, a4, a5, a6, a7, a8, a9, a10] := h.set 1 v
theorem Blk.s11_2 {w : World} {b : Nat} {a0 a1 a2 a3 a4 a5 a6 a7 a8 a9 a10 : Value} (h : Blk w b #[a0, a1, a2, a3, a4, a5, a6, a7, a8, a9, a10]) (v : Value) : Blk (w.setCell ⟨b, 2, none⟩ v) b #[a0, a1, v, a3, a4, a5, a6, a7, a8, a9, a10] := h.set 2 v
theorem Blk.s11_3 {w : World} {b : Nat} {a0 a1 a2 a3 a4 a5 a6 a7 a8 a9 a10 : Value} (h : Blk w b #[a0, a1, a2, a3, a4, a5, a6, a7, a8, a9, a10]) (v : Value) : Blk (w.setCell ⟨b, 3, none⟩ v) b #[a0, a1, a2, v, a4, a5, a6, a7, a8, a9, a10] := h.set 3 v
theorem Blk.s11_4 {w : World} {b : Nat} {a0 a1 a2 a3 a4 a5 a6 a7 a8 a9 a10 : Value} (h : Blk w b #[a0, a1, a2, a3, a4, a5, a6, a7, a8, a9, a10]) (v : Value) : Blk (w.setCell ⟨b, 4, none⟩ v) b #[a0, a1, a2, a3, v, a5, a6, a7, a8, a9, a10] := h.set 4 v
theorem Blk.s11_5 {w : World} {b : Nat} {a0 a1 a2 a3 a4 a5 a6 a7 a8 a9 a10 : Value} (h : Blk w b #[a0, a1, a2, a3, a4, a5, a6, a7, a8, a9, a10]) (v : Value) : Blk (w.setCell ⟨b, 5, none⟩ v) b #[a0, a1, a2, a3, a4, v, a6, a7, a8, a9, a10] := h.set 5 v
theorem Blk.s11_6 {w : World} {b : Nat} {a0 a1 a2 a3 a4 a5 a6 a7 a8 a9 a10 : Value} (h : Blk w b #[a0, a1, a2, a3, a4, a5, a6, a7, a8, a9, a10]) (v : Value) : Blk (w.setCell ⟨b, 6, none⟩ v) b #[a0, a1, a2, a3, a4, a5, v, a7, a8, a9, a10] := h.set 6 v
theorem Blk.s11_7 {w : World} {b : Nat} {a0 a1 a2 a3 a4 a5 a6 a7 a8 a9 a10 : Value} (h : Blk w b #[a0, a1, a2, a3, a4, a5, a6, a7, a8, a9, a10]) (v : Value) : Blk (w.setCell ⟨b, 7, none⟩ v) b #[a0, a1, a2, a3, a4, a5, a6, v, a8, a9, a10] := h.set 7 v
theorem Blk.s11_8 {w : World} {b : Nat} {a0 a1 a2 a3 a4 a5 a6 a7 a8 a9 a10 : Value} (h : Blk w b #[a0, a1, a2, a3, a4, a5, a6, a7, a8, a9, a10]) (v : Value) : Blk (w.setCell ⟨b, 8, none⟩ v) b #[a0, a1, a2, a3, a4, a5, a6, a7, v, a9, a10] := h.set 8 v
theorem Blk.s11_9 {w : World} {b : Nat} {a0 a1 a2 a3 a4 a5 a6 a7 a8 a9 a10 : Value} (h : Blk w b #[a0, a1, a2, a3, a4, a5, a6, a7, a8, a9, a10]) (v : Value) : Blk (w.setCell ⟨b, 9, none⟩ v) b #[a0, a1, a2, a3, a4, a5, a6, a7, a8, v, a10] := h.set 9 v
theorem Blk.s11_10 {w : World} {b : Nat} {a0 a1 a2 a3 a4 a5 a6 a7 a8 a9 a10 : Value} (h : Blk w b #[a0, a1, a2, a3, a4, a5, a6, a7, a8, a9, a10]) (v : Value) : Blk (w.setCell ⟨b, 10, none⟩ v) b #[a0, a1, a2, a3, a4, a5, a6, a7, a8, a9, v] := h.set 10 v
theorem ld_row {P : Program} {ops : Array Oper} {rest : List Oper} {dst : Option Tmp} {ty t : TypeId} {x : Operand} {p : String} {f : Array Edge} {a : Act} {w : World} {Q : Exit → Act → World → Prop} {g : Nat} {cs : Array Value} {d : TypeDesc}
    (hx : a.eval x = .pointer (some ⟨g, 0, none⟩)) (hb : Blk w g cs) (hu : P.underlying ty = some d) (hd : (match d with | .struct _ | .array _ _ => true | _ => false) = true) (hi : (P.info? ty).map (·.size) = some cs.size)
    (h : wpList P ops Q rest (a.put dst (.agg cs)) w) : wpList P ops Q ({ dst := dst, op := .load ty x, type := t, pos := p, after := f, guard := none } :: rest) a w := by
  obtain ⟨t0, hg⟩ := hb
  exact wpList_load_row rfl ty x rfl g hx t0 cs (0, 0) d hg hu hd hi h
theorem st_row {P : Program} {ops : Array Oper} {rest : List Oper} {dst : Option Tmp} {ty t : TypeId} {x y : Operand} {p : String} {f : Array Edge} {a : Act} {w : World} {Q : Exit → Act → World → Prop} {g : Nat} {cells old : Array Value}
    (hx : a.eval x = .pointer (some ⟨g, 0, none⟩)) (hy : a.eval y = .agg cells) (hb : Blk w g old) (hi : (P.info? ty).map (·.size) = some cells.size) (hold : old.size = cells.size) (h1 : cells.all (·.oneCell') = true)
    (h : wpList P ops Q rest (a.put dst undef) (w.setRow g cells)) : wpList P ops Q ({ dst := dst, op := .store ty x y, type := t, pos := p, after := f, guard := none } :: rest) a w := by
  obtain ⟨t0, hg⟩ := hb
  exact wpList_store_row rfl ty x y rfl g cells hx hy t0 old hg hi hold h1 h
theorem res_row {P : Program} {fn : Func} {p : Tmp} {ty : TypeId} {tmps : Array Value} {w : World} {g : Nat} {cs : Array Value} {d : TypeDesc} (h : fn.results = #[.cell p ty]) (hp : tmps.getD p undef = .pointer (some ⟨g, 0, none⟩)) (hb : Blk w g cs)
    (hu : P.underlying ty = some d) (hd : (match d with | .struct _ | .array _ _ => true | _ => false) = true) (hi : (P.info? ty).map (·.size) = some cs.size) : (results fn tmps).run P w = .ok (.agg cs) w := by
  obtain ⟨t0, hg⟩ := hb
  exact results_cell_row h tmps w g t0 cs (0, 0) d hp hg hu hd hi
theorem wp_copy {P : Program} {id : Nat} {ty t1 t2 : TypeId} {d : Nat} {x y : Operand} {p1 p2 : String} {f1 f2 : Array Edge} {a : Act} {w : World} {Q : Exit → Act → World → Prop} {g k : Nat} {cs old : Array Value} {ds : TypeDesc}
    (hx : a.eval x = .pointer (some ⟨g, 0, none⟩)) (hb : Blk w g cs) (hu : P.underlying ty = some ds) (hd : (match ds with | .struct _ | .array _ _ => true | _ => false) = true) (hi : (P.info? ty).map (·.size) = some cs.size)
    (hy : (a.put (some d) (.agg cs)).eval y = .pointer (some ⟨k, 0, none⟩)) (hz : (a.put (some d) (.agg cs)).eval (.tmp d) = .agg cs) (hb2 : Blk w k old) (hold : old.size = cs.size) (h1 : cs.all (·.oneCell') = true)
    (h : Q .normal ((a.put (some d) (.agg cs)).put none undef) (w.setRow k cs)) :
    (Code.region id #[{ dst := some d, op := .load ty x, type := t1, pos := p1, after := f1, guard := none }, { dst := none, op := .store ty y (.tmp d), type := t2, pos := p2, after := f2, guard := none }] false).wp P Q a w :=
  wp_region_lit (ld_row hx hb hu hd hi (st_row hy hz hb2 hi hold h1 (wpList_nil h)))
theorem run_load_blk {P : Program} (ty : TypeId) {g : Nat} {cs : Array Value} {d : TypeDesc} (hu : P.underlying ty = some d) (hd : (match d with | .struct _ | .array _ _ => true | _ => false) = true) (hi : (P.info? ty).map (·.size) = some cs.size) {w : World} (hb : Blk w g cs) :
    (Instr.loadAt ty (.pointer (some ⟨g, 0, none⟩))).run P w = .ok (.agg cs) w := by
  obtain ⟨t, hg⟩ := hb
  simp only [Instr.loadAt, Instr.sureAddr, Sem.run_bind, Sem.run_pure, Result.andThen_ok, run_loadVar_row w g t ty cs (0, 0) d hg hu hd hi]
end Go.Proofs.Ytnhjalijnociaaa

/- Rows of boxes that a function grows; a level under way in memory. -/
set_option linter.unusedVariables false
namespace Go.Proofs.Ytnhjalijnociaaa
open Go.RowKit

theorem Up.shift {R B g H : Nat} {w w' : World} (h : Up g H w w') (hg : B ≤ g) (hH : B ≤ H) : Up R B w w' := ⟨h.os, h.tape, h.output, h.size, fun k hk hr => h.block k (by omega) (by omega)⟩
theorem Up.under {B g H : Nat} {w w' : World} (h : Up g H w w') (hg : B ≤ g) (hH : B ≤ H) : Below B w w' := ⟨h.os, h.tape, h.output, h.size, fun k hk => h.block k (by omega) (by omega)⟩

/-- a row of n boxes that block g holds -/
def Row (w : World) (g cap n : Nat) (f : Nat → Bx) : Prop := w.ownsRow g 27 4 (.slice (some ⟨g, 0, none⟩) n cap) n (bvals f n)
section
variable {w w' : World} {g cap n : Nat} {f : Nat → Bx}
theorem Row.raw (h : Row w g cap n f) : ∃ cur, w.heap[g]? = some (.cells cur 27 (0, 0)) ∧ n ≤ cap ∧ cap ≤ maxLen ∧ cur.size = cap * 4 ∧ cur.toList.take (n * 4) = bvals f n := by
  rcases h.2 with ⟨h', _⟩ | ⟨g', cap', cur, h', hb, hg, h1, h2, h3, h4⟩
  · simp at h'
  · simp only [Value.slice.injEq, Option.some.injEq, Addr.mk.injEq, and_true, true_and] at h'
    obtain ⟨rfl, rfl⟩ := h'
    exact ⟨cur, hg, h1, h2, h3, h4⟩
theorem Row.of {cur : Array Value} (hg : w.heap[g]? = some (.cells cur 27 (0, 0))) (h1 : n ≤ cap) (h2 : cap ≤ maxLen) (h3 : cur.size = cap * 4) (h4 : cur.toList.take (n * 4) = bvals f n) : Row w g cap n f :=
  ⟨bvals_len f n, .inr ⟨g, cap, cur, rfl, Nat.le_refl _, hg, h1, h2, h3, h4⟩⟩
theorem Row.keep (h : Row w g cap n f) (e : w'.heap[g]? = w.heap[g]?) : Row w' g cap n f := by
  obtain ⟨cur, hg, h1, h2, h3, h4⟩ := h.raw
  exact Row.of (e.trans hg) h1 h2 h3 h4
theorem Row.lt (h : Row w g cap n f) : g < w.heap.size := by
  obtain ⟨cur, hg, _⟩ := h.raw
  exact (Array.getElem?_eq_some_iff.1 hg).1
theorem Row.le_cap (h : Row w g cap n f) : n ≤ cap := by
  obtain ⟨cur, _, h1, _⟩ := h.raw
  exact h1
theorem Row.up {R B : Nat} (h : Row w g cap n f) (hu : Up R B w w') (hlt : g < B) (hne : g ≠ R) : Row w' g cap n f := h.keep (hu.block g hlt hne)
theorem Row.below {B : Nat} (h : Row w g cap n f) (hb : Below B w w') (hlt : g < B) : Row w' g cap n f := h.keep (hb.block g hlt)
theorem Row.alloc (h : Row w g cap n f) (o : Obj) : Row (w.alloc o) g cap n f := h.below ((Below.refl w.heap.size w).alloc (Nat.le_refl _) o) h.lt
theorem Row.other (h : Row w g cap n f) {p : Addr} (hne : g ≠ p.block) (v : Value) : Row (w.setCell p v) g cap n f := h.keep (heap_setCell_other w p g v hne)
theorem Row.boxes (h : Row w g cap n f) : BoxesAt w (some ⟨g, 0, none⟩) n f := boxes_own h
theorem Row.rebase {base : Nat} {xs : List Value} (h : w.ownsRow base 27 4 (.slice (some ⟨g, 0, none⟩) n cap) n xs) (e : xs = bvals f n) : Row w g cap n f := by
  subst e
  rcases h.2 with ⟨h', _⟩ | ⟨g', cap', cur, h', hb, hg, h1, h2, h3, h4⟩
  · simp at h'
  · simp only [Value.slice.injEq, Option.some.injEq, Addr.mk.injEq, and_true, true_and] at h'
    obtain ⟨rfl, rfl⟩ := h'
    exact Row.of hg h1 h2 h3 h4
theorem Row.empty (f : Nat → Bx) (hg : w.heap.size = g) : Row (w.alloc (.cells #[] 27)) g 0 0 f := by
  subst hg
  exact Row.of (heap_alloc_new w _) (Nat.le_refl _) (Nat.zero_le _) rfl rfl
end
/-- one box more -/
def snoc (f : Nat → Bx) (n : Nat) (b : Bx) : Nat → Bx := fun i => if i = n then b else f i
theorem bvals_snoc (f : Nat → Bx) (n : Nat) (b : Bx) : bvals (snoc f n b) (n + 1) = bvals f n ++ b.cells := by
  rw [bvals, bvals_congr n fun i hi => by simp only [snoc]; rw [if_neg (by omega)]]
  simp [snoc]
theorem snoc_all {p : Bx → Prop} {f : Nat → Bx} {n : Nat} {b : Bx} (h : ∀ i, i < n → p (f i)) (hb : p b) : ∀ i, i < n + 1 → p (snoc f n b i) := by
  intro i hi
  by_cases e : i = n
  · simp [snoc, e, hb]
  · simp only [snoc, if_neg e]
    exact h i (by omega)
set_option maxRecDepth 100000 in
theorem app_one {w : World} {ops : Array Oper} {rest : List Oper} {o : Oper} {a : Act} {Q : Exit → Act → World → Prop} (hgd : o.guard = none) (s x : Operand)
    (ho : o.op = .call { callee := .builtin .append, args := #[s, x], argTypes := #[25, 25] }) (g cap n : Nat) (f : Nat → Bx) (b0 b1 b2 b3 : Int) (X c : Nat)
    (hs : a.eval s = .slice (some ⟨g, 0, none⟩) n cap) (hrow : Row w g cap n f) (hx : a.eval x = .slice (some ⟨X, 0, none⟩) 1 c) (hX : Blk w X #[.int .i64 b0, .int .i64 b1, .int .i64 b2, .int .i64 b3]) (hn : n ≤ 1000)
    (h : ∀ g' cap' w', Row w' g' cap' (n + 1) (snoc f n ⟨b0, b1, b2, b3⟩) → (g' = g ∨ g' = w.heap.size) → Up g w.heap.size w w' → g' < w'.heap.size → wpList Try.prog ops Q rest (a.put o.dst (.slice (some ⟨g', 0, none⟩) (n + 1) cap')) w') : wpList Try.prog ops Q (o :: rest) a w := by
  obtain ⟨i0, hii, hiz, his, hib⟩ := info_parts infoBox
  obtain ⟨t0, hX⟩ := hX
  refine wpList_append_lies w hgd s x _ ho g 27 i0 _ 4 32 Try.underlying25 hii hiz his hib rfl (by decide) _ n _ hs hrow ⟨X, 0, none⟩ 1 c (Bx.cells ⟨b0, b1, b2, b3⟩) hx rfl (fun j u hu => World.news_of_block hX j u hu) ?_ (by decide) (by unfold maxLen; omega) (by omega) (Nat.le_of_lt hrow.lt) _ rfl ?_
  · intro u hu
    simp only [Bx.cells, List.mem_cons, List.not_mem_nil, or_false] at hu
    rcases hu with rfl | rfl | rfl | rfl <;> rfl
  · intro g' cap' w' hown hgrow hat hlt
    refine h g' cap' w' (Row.rebase hown (bvals_snoc _ _ _).symm) ?_ ⟨hgrow.os, hgrow.tape, hgrow.output, hgrow.size, fun k hk hne => hgrow.block k hk (by simpa [Value.ownBlock] using hne)⟩ hlt
    rcases hat with hat | hat
    · exact .inl (by simpa [Value.ownBlock] using hat.symm)
    · exact .inr hat

/-- a level under way: block L its cells, gw and gg its rows -/
structure LM (w0 : World) (R L gw gg k : Nat) (a0 a1 a2 a3 : Int) (nw cw ng cg : Nat) (f0 f1 f2 f3 bn : Int) (wf gf : Nat → Bx) (w : World) : Prop where
  rd : Rd w R k
  up : Up R w0.heap.size w0 w
  blk : Blk w L #[.int .i64 a0, .int .i64 a1, .int .i64 a2, .int .i64 a3, .slice (some ⟨gw, 0, none⟩) nw cw, .slice (some ⟨gg, 0, none⟩) ng cg, .int .i64 f0, .int .i64 f1, .int .i64 f2, .int .i64 f3, .int .i64 bn]
  res : Blk w w0.heap.size #[.int .i64 0, .int .i64 0, .int .i64 0, .int .i64 0, .slice none 0 0, .slice none 0 0, .int .i64 0, .int .i64 0, .int .i64 0, .int .i64 0, .int .i64 0]
  wr : Row w gw cw nw wf
  gr : Row w gg cg ng gf
  hR : R < w0.heap.size
  hL : w0.heap.size < L
  hw : w0.heap.size < gw
  hg : w0.heap.size < gg
  n1 : gw ≠ gg
  n2 : gw ≠ L
  n3 : gg ≠ L
section
variable {w0 w w' : World} {R L gw gg k : Nat} {a0 a1 a2 a3 : Int} {nw cw ng cg : Nat} {f0 f1 f2 f3 bn : Int} {wf gf : Nat → Bx}
theorem LM.alloc (h : LM w0 R L gw gg k a0 a1 a2 a3 nw cw ng cg f0 f1 f2 f3 bn wf gf w) (o : Obj) : LM w0 R L gw gg k a0 a1 a2 a3 nw cw ng cg f0 f1 f2 f3 bn wf gf (w.alloc o) :=
  ⟨h.rd.keep ((Below.refl _ _).alloc h.rd.lt o), h.up.alloc h.up.size o, h.blk.alloc o, h.res.alloc o, h.wr.alloc o, h.gr.alloc o, h.hR, h.hL, h.hw, h.hg, h.n1, h.n2, h.n3⟩
theorem LM.drew (h : LM w0 R L gw gg k a0 a1 a2 a3 nw cw ng cg f0 f1 f2 f3 bn wf gf w) : LM w0 R L gw gg k a0 a1 a2 a3 nw cw ng cg f0 f1 f2 f3 bn wf gf w.drew :=
  ⟨h.rd, h.up.drew, h.blk, h.res, h.wr, h.gr, h.hR, h.hL, h.hw, h.hg, h.n1, h.n2, h.n3⟩
theorem LM.pass {k' : Nat} (h : LM w0 R L gw gg k a0 a1 a2 a3 nw cw ng cg f0 f1 f2 f3 bn wf gf w) (hr : Rd w' R k') (hu : Up R w.heap.size w w') : LM w0 R L gw gg k' a0 a1 a2 a3 nw cw ng cg f0 f1 f2 f3 bn wf gf w' := by
  have e1 := h.hR; have e2 := h.hL; have e3 := h.hw; have e4 := h.hg
  exact ⟨hr, h.up.trans (hu.mono h.up.size), h.blk.up hu h.blk.lt (by omega), h.res.up hu h.res.lt (by omega), h.wr.up hu h.wr.lt (by omega), h.gr.up hu h.gr.lt (by omega), h.hR, h.hL, h.hw, h.hg, h.n1, h.n2, h.n3⟩
theorem LM.cells (h : LM w0 R L gw gg k a0 a1 a2 a3 nw cw ng cg f0 f1 f2 f3 bn wf gf w) : w.cell? ⟨L, 0, none⟩ = some (.int .i64 a0) ∧ w.cell? ⟨L, 1, none⟩ = some (.int .i64 a1) ∧ w.cell? ⟨L, 2, none⟩ = some (.int .i64 a2) ∧ w.cell? ⟨L, 3, none⟩ = some (.int .i64 a3) ∧ w.cell? ⟨L, 4, none⟩ = some (.slice (some ⟨gw, 0, none⟩) nw cw) ∧ w.cell? ⟨L, 5, none⟩ = some (.slice (some ⟨gg, 0, none⟩) ng cg) ∧ w.cell? ⟨L, 6, none⟩ = some (.int .i64 f0) ∧ w.cell? ⟨L, 7, none⟩ = some (.int .i64 f1) ∧ w.cell? ⟨L, 8, none⟩ = some (.int .i64 f2) ∧ w.cell? ⟨L, 9, none⟩ = some (.int .i64 f3) ∧ w.cell? ⟨L, 10, none⟩ = some (.int .i64 bn) := h.blk.c11
theorem LM.frozen (h : LM w0 R L gw gg k a0 a1 a2 a3 nw cw ng cg f0 f1 f2 f3 bn wf gf w) (i : Nat) : w.frozen? ⟨L, i, none⟩ = false := h.blk.frozen i
theorem LM.gates {g' c' n' : Nat} {gf' : Nat → Bx} (h : LM w0 R L gw gg k a0 a1 a2 a3 nw cw ng cg f0 f1 f2 f3 bn wf gf w) (hrow : Row w' g' c' n' gf') (hat : g' = gg ∨ g' = w.heap.size) (hu : Up gg w.heap.size w w') :
    LM w0 R L gw g' k a0 a1 a2 a3 nw cw n' c' f0 f1 f2 f3 bn wf gf' (w'.setCell ⟨L, 5, none⟩ (.slice (some ⟨g', 0, none⟩) n' c')) := by
  have e1 := h.hR; have e2 := h.hL; have e3 := h.hw; have e4 := h.hg; have e5 := h.up.size; have e6 := h.n1; have e7 := h.n2; have e8 := h.n3
  have e9 := h.blk.lt; have e10 := h.wr.lt; have e11 := h.gr.lt
  have hgL : g' ≠ L := by omega
  have hB : Below (R + 1) w (w'.setCell ⟨L, 5, none⟩ (.slice (some ⟨g', 0, none⟩) n' c')) := Below.setCell (p := ⟨L, 5, none⟩) (hu.under (by omega) (by omega)) (by simp only; omega) _
  have hb := (h.blk.up hu h.blk.lt (fun e => h.n3 e.symm)).s11_5 (.slice (some ⟨g', 0, none⟩) n' c')
  refine ⟨h.rd.keep hB, (h.up.trans (hu.shift (by omega) (by omega))).setCell (p := ⟨L, 5, none⟩) (.inr (by simp only; omega)) _, hb, (h.res.up hu h.res.lt (by omega)).other (by simp only; omega) _, (h.wr.up hu h.wr.lt (by omega)).other (by simp only; omega) _, hrow.other (by simp only; omega) _, h.hR, h.hL, h.hw, by omega, by omega, by omega, by omega⟩
theorem LM.walls {g' c' n' : Nat} {wf' : Nat → Bx} (h : LM w0 R L gw gg k a0 a1 a2 a3 nw cw ng cg f0 f1 f2 f3 bn wf gf w) (hrow : Row w' g' c' n' wf') (hat : g' = gw ∨ g' = w.heap.size) (hu : Up gw w.heap.size w w') :
    LM w0 R L g' gg k a0 a1 a2 a3 n' c' ng cg f0 f1 f2 f3 bn wf' gf (w'.setCell ⟨L, 4, none⟩ (.slice (some ⟨g', 0, none⟩) n' c')) := by
  have e1 := h.hR; have e2 := h.hL; have e3 := h.hw; have e4 := h.hg; have e5 := h.up.size; have e6 := h.n1; have e7 := h.n2; have e8 := h.n3
  have e9 := h.blk.lt; have e10 := h.wr.lt; have e11 := h.gr.lt
  have hgL : g' ≠ L := by omega
  have hB : Below (R + 1) w (w'.setCell ⟨L, 4, none⟩ (.slice (some ⟨g', 0, none⟩) n' c')) := Below.setCell (p := ⟨L, 4, none⟩) (hu.under (by omega) (by omega)) (by simp only; omega) _
  have hb := (h.blk.up hu h.blk.lt (fun e => h.n2 e.symm)).s11_4 (.slice (some ⟨g', 0, none⟩) n' c')
  refine ⟨h.rd.keep hB, (h.up.trans (hu.shift (by omega) (by omega))).setCell (p := ⟨L, 4, none⟩) (.inr (by simp only; omega)) _, hb, (h.res.up hu h.res.lt (by omega)).other (by simp only; omega) _, hrow.other (by simp only; omega) _, (h.gr.up hu h.gr.lt (by omega)).other (by simp only; omega) _, h.hR, h.hL, by omega, h.hg, by omega, by omega, h.n3⟩
theorem LM.fin (h : LM w0 R L gw gg k a0 a1 a2 a3 nw cw ng cg f0 f1 f2 f3 bn wf gf w) (x0 x1 x2 x3 : Int) :
    LM w0 R L gw gg k a0 a1 a2 a3 nw cw ng cg x0 x1 x2 x3 bn wf gf ((((w.setCell ⟨L, 6, none⟩ (.int .i64 x0)).setCell ⟨L, 7, none⟩ (.int .i64 x1)).setCell ⟨L, 8, none⟩ (.int .i64 x2)).setCell ⟨L, 9, none⟩ (.int .i64 x3)) := by
  have e1 := h.hR; have e2 := h.hL; have e5 := h.up.size; have e6 := h.n1; have e7 := h.n2; have e8 := h.n3
  refine ⟨h.rd.keep ?_, ?_, (((h.blk.s11_6 _).s11_7 _).s11_8 _).s11_9 _, ?_, ?_, ?_, h.hR, h.hL, h.hw, h.hg, h.n1, h.n2, h.n3⟩
  · exact Below.setCell (p := ⟨L, 9, none⟩) (Below.setCell (p := ⟨L, 8, none⟩) (Below.setCell (p := ⟨L, 7, none⟩) (Below.setCell (p := ⟨L, 6, none⟩) (Below.refl _ _) (by simp only; omega) _) (by simp only; omega) _) (by simp only; omega) _) (by simp only; omega) _
  · exact (((h.up.setCell (p := ⟨L, 6, none⟩) (.inr (by simp only; omega)) _).setCell (p := ⟨L, 7, none⟩) (.inr (by simp only; omega)) _).setCell (p := ⟨L, 8, none⟩) (.inr (by simp only; omega)) _).setCell (p := ⟨L, 9, none⟩) (.inr (by simp only; omega)) _
  · exact (((h.res.other (by simp only; omega) _).other (by simp only; omega) _).other (by simp only; omega) _).other (by simp only; omega) _
  · exact (((h.wr.other (by simp only; omega) _).other (by simp only; omega) _).other (by simp only; omega) _).other (by simp only; omega) _
  · exact (((h.gr.other (by simp only; omega) _).other (by simp only; omega) _).other (by simp only; omega) _).other (by simp only; omega) _
end
/-- a level in memory, its rows behind the reader's block -/
def LvR (w : World) (R : Nat) (l : Lv) : Prop := LvAt w l ∧ (∀ b o s, l.wa = some ⟨b, o, s⟩ → R < b) ∧ (∀ b o s, l.ga = some ⟨b, o, s⟩ → R < b)
theorem boxes_up {w w' : World} {R B n : Nat} {a : Option Addr} {f : Nat → Bx} (h : BoxesAt w a n f) (hn : ∀ b o s, a = some ⟨b, o, s⟩ → b ≠ R) (hu : Up R w.heap.size w w') : BoxesAt w' a n f := by
  rcases h with h | ⟨b, off, ha, hlt, hc⟩
  · exact .inl h
  · have hne := hn _ _ _ ha
    refine .inr ⟨b, off, ha, Nat.lt_of_lt_of_le hlt hu.size, fun i hi => ?_⟩
    obtain ⟨h0, h1, h2, h3⟩ := hc i hi
    exact ⟨(hu.cell (p := ⟨b, off + i * 4, none⟩) hlt hne).trans h0, (hu.cell (p := ⟨b, off + i * 4 + 1, none⟩) hlt hne).trans h1, (hu.cell (p := ⟨b, off + i * 4 + 2, none⟩) hlt hne).trans h2, (hu.cell (p := ⟨b, off + i * 4 + 3, none⟩) hlt hne).trans h3⟩
theorem LvR.up {w w' : World} {R : Nat} {l : Lv} (h : LvR w R l) (hu : Up R w.heap.size w w') : LvR w' R l := ⟨⟨boxes_up (B := 0) h.1.1 (fun b o s hb => Nat.ne_of_gt (h.2.1 b o s hb)) hu, boxes_up (B := 0) h.1.2 (fun b o s hb => Nat.ne_of_gt (h.2.2 b o s hb)) hu⟩, h.2⟩
theorem LvR.set {w w' : World} {R A : Nat} {l : Lv} (h : LvR w R l) (hu : Up A w.heap.size w w') (hA : A ≤ R) : LvR w' R l := ⟨⟨boxes_up (B := 0) h.1.1 (fun b o s hb => by have := h.2.1 b o s hb; omega) hu, boxes_up (B := 0) h.1.2 (fun b o s hb => by have := h.2.2 b o s hb; omega) hu⟩, h.2⟩
theorem LvR.below {w w' : World} {R : Nat} {l : Lv} (h : LvR w R l) (hu : Below w.heap.size w w') : LvR w' R l := ⟨h.1.keep hu, h.2⟩
theorem LM.done {w0 w : World} {R L gw gg k : Nat} {a0 a1 a2 a3 : Int} {nw cw ng cg : Nat} {f0 f1 f2 f3 bn : Int} {wf gf : Nat → Bx} (h : LM w0 R L gw gg k a0 a1 a2 a3 nw cw ng cg f0 f1 f2 f3 bn wf gf w) (c : Array Value) :
    LvR (w.setRow w0.heap.size c) R ⟨a0, a1, a2, a3, some ⟨gw, 0, none⟩, nw, cw, some ⟨gg, 0, none⟩, ng, cg, f0, f1, f2, f3, bn, wf, gf⟩ ∧ Rd (w.setRow w0.heap.size c) R k ∧ Up R w0.heap.size w0 (w.setRow w0.heap.size c) := by
  have e1 := h.hR; have e3 := h.hw; have e4 := h.hg
  refine ⟨⟨⟨(h.wr.keep (setRow_other w w0.heap.size gw c (by omega))).boxes, (h.gr.keep (setRow_other w w0.heap.size gg c (by omega))).boxes⟩, ?_, ?_⟩, h.rd.keep (Below.setRow (Below.refl _ _) (by omega) _), h.up.setRow (Nat.le_refl _) _⟩
  · intro b o s hb
    simp only [Option.some.injEq, Addr.mk.injEq] at hb
    obtain ⟨rfl, _⟩ := hb
    omega
  · intro b o s hb
    simp only [Option.some.injEq, Addr.mk.injEq] at hb
    obtain ⟨rfl, _⟩ := hb
    omega
/-- a box that is not large -/
def Bx.sm (b : Bx) : Prop := (-1010000 ≤ b.lx ∧ b.lx ≤ 1010000) ∧ (-1010000 ≤ b.ly ∧ b.ly ≤ 1010000) ∧ (-1010000 ≤ b.hx ∧ b.hx ≤ 1010000) ∧ (-1010000 ≤ b.hy ∧ b.hy ≤ 1010000)
theorem Bx.sm_of {a b c d : Int} (h1 : -1010000 ≤ a) (h2 : a ≤ 1010000) (h3 : -1010000 ≤ b) (h4 : b ≤ 1010000) (h5 : -1010000 ≤ c) (h6 : c ≤ 1010000) (h7 : -1010000 ≤ d) (h8 : d ≤ 1010000) : Bx.sm ⟨a, b, c, d⟩ := ⟨⟨h1, h2⟩, ⟨h3, h4⟩, ⟨h5, h6⟩, ⟨h7, h8⟩⟩
/-- a level that is not large -/
structure Lv.sm (l : Lv) (n : Nat) : Prop where
  wn : l.wn ≤ n
  gn : l.gn ≤ n
  id : -10 ≤ l.id ∧ l.id ≤ 200
  ticks : -10 ≤ l.ticks ∧ l.ticks ≤ 200
  sx : -1010000 ≤ l.sx ∧ l.sx ≤ 1010000
  sy : -1010000 ≤ l.sy ∧ l.sy ≤ 1010000
  fin : Bx.sm ⟨l.flx, l.fly, l.fhx, l.fhy⟩
  bans : -10 ≤ l.bans ∧ l.bans ≤ 10
  walls : ∀ i, i < l.wn → (l.wf i).sm
  gates : ∀ i, i < l.gn → (l.gf i).sm
  wcap : l.wn ≤ l.wc
  gcap : l.gn ≤ l.gc
/-- a level drawn -/
def DrawnLevel (n c R k : Nat) (w : World) (e : Ending) (w' : World) : Prop :=
  ∃ (l : Lv) (k' : Nat), e = .returned (.agg #[.int .i64 l.id, .int .i64 l.ticks, .int .i64 l.sx, .int .i64 l.sy, .slice l.wa l.wn l.wc, .slice l.ga l.gn l.gc, .int .i64 l.flx, .int .i64 l.fly, .int .i64 l.fhx, .int .i64 l.fhy, .int .i64 l.bans]) ∧ LvR w' R l ∧ l.sm n ∧ k ≤ k' ∧ k' ≤ k + c ∧ Rd w' R k' ∧ Up R w.heap.size w w'
end Go.Proofs.Ytnhjalijnociaaa

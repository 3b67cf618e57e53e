/- slices.Grow, slices.Concat, slices.ContainsFunc at boxes; all boxes of a level. -/
import Derived.Test.YtgiadgbfeldheaaLa
import Derived.Test.YtgiadgbfeldheaaY
import Derived.Lib.AppendZeros
import Derived.Deep.AppendLies
namespace Go.Proofs.Ytgiadgbfeldheaa
open Go.RowKit

theorem infoBox : (Try.prog.info? 41).map (fun i => (i.zero, i.size, i.bytes)) = some (some (.agg #[.int .i64 0, .int .i64 0, .int .i64 0, .int .i64 0]), 4, 32) := by kernel_rfl
/-- a box's cells; the cells of the first n boxes -/
def Bx.cells (b : Bx) : List Value := [.int .i64 b.lx, .int .i64 b.ly, .int .i64 b.hx, .int .i64 b.hy]
def bvals (f : Nat → Bx) : Nat → List Value
  | 0 => []
  | n + 1 => bvals f n ++ (f n).cells
theorem bvals_len (f : Nat → Bx) : ∀ n, (bvals f n).length = n * 4
  | 0 => rfl
  | n + 1 => by rw [bvals, List.length_append, bvals_len f n]; simp [Bx.cells]; omega
theorem bvals_at (f : Nat → Bx) : ∀ {n i : Nat}, i < n → ∀ {j : Nat}, j < 4 → (bvals f n)[i * 4 + j]? = (f i).cells[j]?
  | 0, _, h, _, _ => absurd h (Nat.not_lt_zero _)
  | n + 1, i, h, j, hj => by
    rw [bvals]
    by_cases e : i = n
    · subst e
      rw [List.getElem?_append_right (by rw [bvals_len]; omega), bvals_len]
      congr 1
      omega
    · rw [List.getElem?_append_left (by rw [bvals_len]; omega)]
      exact bvals_at f (by omega) hj
theorem bvals_one (f : Nat → Bx) : ∀ n, ∀ u ∈ bvals f n, u.oneCell' = true
  | 0, u, h => by cases h
  | n + 1, u, h => by
    rw [bvals, List.mem_append] at h
    rcases h with h | h
    · exact bvals_one f n u h
    · simp only [Bx.cells, List.mem_cons, List.not_mem_nil, or_false] at h
      rcases h with rfl | rfl | rfl | rfl <;> rfl
theorem bvals_congr {f g : Nat → Bx} : ∀ n, (∀ i, i < n → f i = g i) → bvals f n = bvals g n
  | 0, _ => rfl
  | n + 1, h => by rw [bvals, bvals, bvals_congr n (fun i hi => h i (by omega)), h n (by omega)]
theorem bvals_add (f : Nat → Bx) (n : Nat) : ∀ m, bvals f (n + m) = bvals f n ++ bvals (fun i => f (n + i)) m
  | 0 => by simp [bvals]
  | m + 1 => by rw [← Nat.add_assoc, bvals, bvals_add f n m, bvals, List.append_assoc]
theorem bvals_cells {w : World} {b off n : Nat} {f : Nat → Bx} (hc : ∀ i, i < n → BoxCells w b (off + i * 4) (f i)) : ∀ j u, (bvals f n)[j]? = some u → w.cell? ((⟨b, off, none⟩ : Addr).add j) = some u := by
  intro j u hu
  have hj : j < n * 4 := by have := (List.getElem?_eq_some_iff.1 hu).1; rw [bvals_len] at this; omega
  have hi : j / 4 < n := by omega
  obtain ⟨c0, c1, c2, c3⟩ := hc (j / 4) hi
  have e : j = j / 4 * 4 + j % 4 := by omega
  rw [e, bvals_at f hi (by omega)] at hu
  rw [addr_add, e]
  have hm : j % 4 = 0 ∨ j % 4 = 1 ∨ j % 4 = 2 ∨ j % 4 = 3 := by omega
  generalize j / 4 = i at *
  rcases hm with h | h | h | h <;> rw [h] at hu ⊢ <;> simp only [Bx.cells, List.getElem?_cons_zero, List.getElem?_cons_succ, Option.some.injEq] at hu <;> subst hu
  · rw [Nat.add_zero]; exact c0
  · rw [← Nat.add_assoc]; exact c1
  · rw [← Nat.add_assoc]; exact c2
  · rw [← Nat.add_assoc]; exact c3
theorem boxes_own {w : World} {base g n cap : Nat} {f : Nat → Bx} (h : w.ownsRow base 41 4 (.slice (some ⟨g, 0, none⟩) n cap) n (bvals f n)) : BoxesAt w (some ⟨g, 0, none⟩) n f := by
  refine .inr ⟨g, 0, rfl, ?_, fun i hi => ?_⟩
  · rcases h.2 with ⟨h', _⟩ | ⟨g', cap', cur, h', _, hg, _⟩
    · simp at h'
    · simp only [Value.slice.injEq, Option.some.injEq, Addr.mk.injEq, and_true] at h'
      obtain ⟨rfl, _⟩ := h'
      exact (Array.getElem?_eq_some_iff.1 hg).1
  · rw [Nat.zero_add]
    have h0 := h.cellAt (i * 4) (by omega)
    have h1 := h.cellAt (i * 4 + 1) (by omega)
    have h2 := h.cellAt (i * 4 + 2) (by omega)
    have h3 := h.cellAt (i * 4 + 3) (by omega)
    have b0 := bvals_at f hi (j := 0) (by omega)
    rw [Nat.add_zero] at b0
    rw [b0] at h0
    rw [bvals_at f hi (by omega)] at h1 h2 h3
    exact ⟨h0, h1, h2, h3⟩

theorem run_app_none {P : Program} {w : World} (base : Nat) (t ty e : TypeId) (i : TypeInfo) (size c : Nat) (ht : P.underlying t = some (.slice e)) (hi : P.info? e = some i)
    (v : Value) (n : Nat) (xs : List Value) (hown : w.ownsRow base e size v n xs) : (Builtin.append_ #[t, t] ty #[v, .slice none 0 c]).run P w = .ok v w := by
  rcases hown.2 with ⟨rfl, rfl⟩ | ⟨g, cap, cur, rfl, _, _, hnc, _⟩
  · simp [Builtin.append_, run_underlying ht, sizeOf, typeInfo, hi, Builtin.lenOf, Builtin.firstCells]
  · simp [Builtin.append_, run_underlying ht, sizeOf, typeInfo, hi, Builtin.lenOf, Builtin.firstCells, hnc, storeCells]
set_option maxRecDepth 100000 in
theorem app_boxes {w : World} {ops : Array Oper} {rest : List Oper} {o : Oper} {a : Act} {Q : Exit → Act → World → Prop} (hgd : o.guard = none) (s x : Operand)
    (ho : o.op = .call { callee := .builtin .append, args := #[s, x], argTypes := #[39, 39] }) (base : Nat) (v : Value) (n : Nat) (xs : List Value) (hs : a.eval s = v) (hown : w.ownsRow base 41 4 v n xs)
    (A : Option Addr) (m c : Nat) (f : Nat → Bx) (hx : a.eval x = .slice A m c) (hB : BoxesAt w A m f) (hbd : n + m ≤ 100000) (hbase : base ≤ w.heap.size)
    (h : ∀ v' w', w'.ownsRow base 41 4 v' (n + m) (xs ++ bvals f m) → w.grownBy w' v.ownBlock → (v' = .slice none 0 0 ↔ v = .slice none 0 0 ∧ m = 0) → wpList Try.prog ops Q rest (a.put o.dst v') w') : wpList Try.prog ops Q (o :: rest) a w := by
  obtain ⟨i0, hii, hiz, his, hib⟩ := info_parts infoBox
  cases A with
  | none =>
    have hm : m = 0 := by
      rcases hB with hB | ⟨b, off, ha, _⟩
      · exact hB
      · cases ha
    subst hm
    have hrun := run_app_none (P := Try.prog) base 39 o.type 41 i0 4 c Try.underlying39 hii v n xs hown
    exact Lib.wpList_append_run w hgd s x _ _ ho _ _ hs hx _ _ hrun (h v w (by simpa [bvals] using hown) ⟨rfl, rfl, rfl, Nat.le_refl _, fun _ _ _ => rfl⟩ (by simp))
  | some ad =>
    rcases hB with hB | ⟨b, off, ha, hlt, hc⟩
    · subst hB
      exact wpList_append_own w hgd s x _ ho base 41 i0 _ 4 32 Try.underlying39 hii hiz his hib rfl (by decide) v n xs hs hown ad 0 c [] hx rfl (by simp) (by simp) (by unfold maxLen; omega) (by omega) hbase h
    · cases ha
      exact wpList_append_own w hgd s x _ ho base 41 i0 _ 4 32 Try.underlying39 hii hiz his hib rfl (by decide) v n xs hs hown _ m c (bvals f m) hx (bvals_len f m) (bvals_cells hc) (bvals_one f m) (by unfold maxLen; omega) (by omega) hbase h

/-- a new empty row of boxes -/
def NewRow (w : World) (e : Ending) (w' : World) : Prop :=
  ∃ cap, e = .returned (.slice (some ⟨w.heap.size, 0, none⟩) 0 cap) ∧ w'.ownsRow w.heap.size 41 4 (.slice (some ⟨w.heap.size, 0, none⟩) 0 cap) 0 [] ∧ Below w.heap.size w w'
set_option maxRecDepth 100000 in
set_option maxHeartbeats 1000000 in
theorem grow_any (n : Nat) (w : World) (h1 : 1 ≤ n) (h2 : n ≤ 100000) : Calls Try.prog 84 #[.slice none 0 0, .int .i64 n] w (NewRow w) := by
  obtain ⟨i0, hii, hiz, his, hib⟩ := info_parts infoBox
  have hrun := Lib.run_append_nil_zeros (P := Try.prog) w 39 3 39 41 i0 _ .i64 .i64 Try.underlying39 Try.underlying3 hii hiz n h1 (by rw [his]; omega) (by omega) (by rw [hib]; omega)
  have hge := grownCap_ge w n 0 41
  have hcm := grownCap_le_maxLen w n 0 41 (by unfold maxLen; omega)
  go_enter Try.func84, Try.ntmps84
  go_wp2_with (at_builtin; refine Lib.wpList_append_run _ rfl _ _ _ _ rfl _ _ rfl rfl _ _ hrun ?_)
  refine bodyPost_ret (by simp [results, Try.results84, go_sem]; try rfl) rfl ?_
  refine ⟨grownCap w n 0 41, rfl, ?_, by (repeat (first | with_reducible assumption | with_reducible exact Below.refl _ _ | ((with_reducible refine Below.alloc ?_ ?_ _); rotate_left; · exact (by first | omega | (simp; done) | (simp; omega))) | ((with_reducible refine Below.setCell ?_ ?_ _); rotate_left; · exact (by first | omega | (simp; done) | (simp; omega))) | with_reducible refine Below.drew ?_ | assumption | exact Below.refl _ _ | refine Below.alloc ?_ (by first | omega | (simp; done) | (simp; omega)) _ | refine Below.setCell ?_ (by first | omega | (simp; done) | (simp; omega)) _ | refine Below.drew ?_))⟩
  exact World.ownsRow_made w.drew _ _ (Nat.le_refl _) hcm (by simp only [Array.size_append, size_zeroCells]; rw [← Nat.add_mul]; show (n + (grownCap w n 0 41 - n)) * 4 = _; congr 1; omega)

theorem grow_int (z : Int) (w : World) (h1 : 1 ≤ z) (h2 : z ≤ 100000) : Calls Try.prog 84 #[.slice none 0 0, .int .i64 z] w (NewRow w) := by
  obtain ⟨n, rfl⟩ := Int.eq_ofNat_of_zero_le (show 0 ≤ z by omega)
  exact grow_any n w (by omega) (by omega)
/-- the boxes of a level: its walls, its gates, its finish -/
def allB (wf gf : Nat → Bx) (wn gn : Nat) (fin : Bx) (i : Nat) : Bx := if i < wn then wf i else if i < wn + gn then gf (i - wn) else fin
theorem allB_vals (wf gf : Nat → Bx) (wn gn : Nat) (fin : Bx) : bvals (allB wf gf wn gn fin) (wn + gn + 1) = (bvals wf wn ++ bvals gf gn) ++ fin.cells := by
  rw [bvals, bvals_add]
  congr 1
  · congr 1
    · exact bvals_congr _ fun i hi => by simp [allB, hi]
    · refine bvals_congr _ fun i hi => ?_
      have h1 : ¬ (wn + i < wn) := by omega
      have h2 : wn + i < wn + gn := by omega
      have h3 : wn + i - wn = i := by omega
      simp [allB, h1, h2, h3]
  · have h1 : ¬ (wn + gn < wn) := by omega
    have h2 : ¬ (wn + gn < wn + gn) := by omega
    simp only [allB, if_neg h1, if_neg h2]
/-- a new slice of n boxes -/
def NewBoxes (n : Nat) (f : Nat → Bx) (w : World) (e : Ending) (w' : World) : Prop :=
  ∃ g cap, e = .returned (.slice (some ⟨g, 0, none⟩) n cap) ∧ BoxesAt w' (some ⟨g, 0, none⟩) n f ∧ w.heap.size ≤ g ∧ g < w'.heap.size ∧ Below w.heap.size w w'
set_option maxRecDepth 100000 in
set_option maxHeartbeats 4000000 in
theorem concat_any (P : Nat) (wa ga fa : Option Addr) (wn wc gn gc : Nat) (wf gf ff : Nat → Bx) (w : World) (hP : P < w.heap.size) (h0 : w.cell? ⟨P, 0, none⟩ = some (.slice wa wn wc)) (h1 : w.cell? ⟨P, 1, none⟩ = some (.slice ga gn gc)) (h2 : w.cell? ⟨P, 2, none⟩ = some (.slice fa 1 1))
    (hw : BoxesAt w wa wn wf) (hg : BoxesAt w ga gn gf) (hf : BoxesAt w fa 1 ff) (hwn : wn ≤ 10000) (hgn : gn ≤ 10000) :
    Calls Try.prog 69 #[.slice (some ⟨P, 0, none⟩) 3 3] w (NewBoxes (wn + gn + 1) (allB wf gf wn gn (ff 0)) w) := by
  go_enter Try.func69, Try.ntmps69
  go_wp2_with fail
  refine wp_loop_rounds 5 ?_
  rw [rounds_succ]
  go_wp2_with fail
  rw [rounds_succ]
  go_wp2_with fail
  rw [rounds_succ]
  go_wp2_with fail
  rw [rounds_succ]
  go_wp2_with fail
  refine (grow_int _ _ (by omega) (by omega)).mono ?_
  rintro e w1 ⟨cap, rfl, hown1, hB1⟩
  have hz1 : w.heap.size ≤ w1.heap.size := hB1.size
  have p0 := (hB1.cell (p := ⟨P, 0, none⟩) hP).trans h0
  go_wp2_with fail
  refine wp_loop_rounds 5 ?_
  rw [rounds_succ]
  go_wp2_with (at_builtin; refine app_boxes rfl _ _ rfl w.heap.size _ _ _ rfl hown1 wa wn wc wf rfl (hw.keep hB1) (by omega) hz1 ?_; intro v2 w2 hown2 hgrow2 hnil2; have hB2 : Below w.heap.size w w2 := hB1.grown hgrow2 hz1 (fun b hb => (hown1.lt b hb).1); have p1 := (hB2.cell (p := ⟨P, 1, none⟩) hP).trans h1; have hz2 : w.heap.size ≤ w2.heap.size := hB2.size)
  rw [rounds_succ]
  go_wp2_with (at_builtin; refine app_boxes rfl _ _ rfl w.heap.size _ _ _ rfl hown2 ga gn gc gf rfl (hg.keep hB2) (by omega) hz2 ?_; intro v3 w3 hown3 hgrow3 hnil3; have hB3 : Below w.heap.size w w3 := hB2.grown hgrow3 hz2 (fun b hb => (hown2.lt b hb).1); have p2 := (hB3.cell (p := ⟨P, 2, none⟩) hP).trans h2; have hz3 : w.heap.size ≤ w3.heap.size := hB3.size)
  rw [rounds_succ]
  go_wp2_with (at_builtin; refine app_boxes rfl _ _ rfl w.heap.size _ _ _ rfl hown3 fa 1 1 ff rfl (hf.keep hB3) (by omega) hz3 ?_; intro v4 w4 hown4 hgrow4 hnil4; have hB4 : Below w.heap.size w w4 := hB3.grown hgrow4 hz3 (fun b hb => (hown3.lt b hb).1))
  rw [rounds_succ]
  go_wp2_with fail
  go_wp2
  go_ret
  have hlt := hown4.lt
  simp only [Nat.zero_add, List.nil_append] at hown4
  have hv : bvals wf wn ++ bvals gf gn ++ bvals ff 1 = bvals (allB wf gf wn gn (ff 0)) (wn + gn + 1) := by rw [allB_vals]; rfl
  rw [hv] at hown4
  rcases hown4.2 with ⟨_, hn0⟩ | ⟨g, cap4, cur, rfl, _⟩
  · omega
  · exact ⟨g, cap4, rfl, boxes_own hown4, (hlt g rfl).1, (hlt g rfl).2, hB4⟩
set_option maxRecDepth 100000 in
set_option maxHeartbeats 1000000 in
theorem iBoxes (l : Lv) (w : World) (hl : LvAt w l) (hwn : l.wn ≤ 10000) (hgn : l.gn ≤ 10000) : Calls Try.prog 48 #[.agg #[.int .i64 l.id, .int .i64 l.ticks, .int .i64 l.sx, .int .i64 l.sy, .slice l.wa l.wn l.wc, .slice l.ga l.gn l.gc, .int .i64 l.flx, .int .i64 l.fly, .int .i64 l.fhx, .int .i64 l.fhy, .int .i64 l.bans]] w (NewBoxes (l.wn + l.gn + 1) (allB l.wf l.gf l.wn l.gn ⟨l.flx, l.fly, l.fhx, l.fhy⟩) w) := by
  obtain ⟨hw, hg⟩ := hl
  go_enter Try.func48, Try.ntmps48
  go_wp2_with fail
  refine (concat_any (w.heap.size + 1 + 1) l.wa l.ga (some ⟨w.heap.size + 1, 0, none⟩) l.wn l.wc l.gn l.gc l.wf l.gf (fun _ => ⟨l.flx, l.fly, l.fhx, l.fhy⟩) _ (by simp) (by simp [go_sem]) (by simp [go_sem]) (by simp [go_sem]) (hw.keep (by (repeat (first | with_reducible assumption | with_reducible exact Below.refl _ _ | ((with_reducible refine Below.alloc ?_ ?_ _); rotate_left; · exact (by first | omega | (simp; done) | (simp; omega))) | ((with_reducible refine Below.setCell ?_ ?_ _); rotate_left; · exact (by first | omega | (simp; done) | (simp; omega))) | with_reducible refine Below.drew ?_ | assumption | exact Below.refl _ _ | refine Below.alloc ?_ (by first | omega | (simp; done) | (simp; omega)) _ | refine Below.setCell ?_ (by first | omega | (simp; done) | (simp; omega)) _ | refine Below.drew ?_)))) (hg.keep (by (repeat (first | with_reducible assumption | with_reducible exact Below.refl _ _ | ((with_reducible refine Below.alloc ?_ ?_ _); rotate_left; · exact (by first | omega | (simp; done) | (simp; omega))) | ((with_reducible refine Below.setCell ?_ ?_ _); rotate_left; · exact (by first | omega | (simp; done) | (simp; omega))) | with_reducible refine Below.drew ?_ | assumption | exact Below.refl _ _ | refine Below.alloc ?_ (by first | omega | (simp; done) | (simp; omega)) _ | refine Below.setCell ?_ (by first | omega | (simp; done) | (simp; omega)) _ | refine Below.drew ?_)))) (.inr ⟨w.heap.size + 1, 0, rfl, (by first | omega | (simp; done) | (simp; omega)), fun i hi => by
    obtain rfl : i = 0 := by omega
    simp [BoxCells, go_sem]⟩) hwn hgn).mono ?_
  rintro e w1 ⟨g, cap, rfl, hbx, hg1, hg2, hb1⟩
  have hB1 : Below w.heap.size w w1 := bstep (by (repeat (first | with_reducible assumption | with_reducible exact Below.refl _ _ | ((with_reducible refine Below.alloc ?_ ?_ _); rotate_left; · exact (by first | omega | (simp; done) | (simp; omega))) | ((with_reducible refine Below.setCell ?_ ?_ _); rotate_left; · exact (by first | omega | (simp; done) | (simp; omega))) | with_reducible refine Below.drew ?_ | assumption | exact Below.refl _ _ | refine Below.alloc ?_ (by first | omega | (simp; done) | (simp; omega)) _ | refine Below.setCell ?_ (by first | omega | (simp; done) | (simp; omega)) _ | refine Below.drew ?_))) (by first | omega | (simp; done) | (simp; omega)) hb1
  have hg1 : w.heap.size ≤ g := by simp at hg1; omega
  go_wp2
  go_ret
  exact ⟨g, cap, rfl, hbx, hg1, hg2, hB1⟩
/-- the first box that is not valid -/
def IdxInts (ok : Bool) (w : World) (e : Ending) (w' : World) : Prop := ∃ z : Int, e = .returned (.int .i64 z) ∧ (ok = true → z = -1) ∧ (ok = false → 0 ≤ z) ∧ Below w.heap.size w w'
set_option maxHeartbeats 400000 in
theorem notValid (lx ly hx hy : Int) (w : World) : Calls Try.prog 49 #[.agg #[.int .i64 lx, .int .i64 ly, .int .i64 hx, .int .i64 hy]] w fun e w' => e = .returned (.bool (!bxB lx ly hx hy)) ∧ Below w.heap.size w w' := by
  go_enter Try.func49, Try.ntmps49
  go_wp2_with fail; refine (iBoxValid _ _ _ _ _).mono ?_; rintro e w1 ⟨rfl, hb1⟩; obtain ⟨hc1, hf1⟩ := bcell hb1; have hz1 : w.heap.size < w1.heap.size := (by have := hb1.size; first | omega | (simp at this; omega)); have hy1 : w.heap.size < w1.heap.size + 1 := Nat.lt_succ_of_lt hz1; have hB1 : Below w.heap.size w w1 := bstep (by (repeat (first | with_reducible assumption | with_reducible exact Below.refl _ _ | ((with_reducible refine Below.alloc ?_ ?_ _); rotate_left; · exact (by first | omega | (simp; done) | (simp; omega))) | ((with_reducible refine Below.setCell ?_ ?_ _); rotate_left; · exact (by first | omega | (simp; done) | (simp; omega))) | with_reducible refine Below.drew ?_ | assumption | exact Below.refl _ _ | refine Below.alloc ?_ (by first | omega | (simp; done) | (simp; omega)) _ | refine Below.setCell ?_ (by first | omega | (simp; done) | (simp; omega)) _ | refine Below.drew ?_))) (by first | omega | (simp; done) | (simp; omega)) hb1
  go_wp2
  go_ret
  exact ⟨rfl, by (repeat (first | with_reducible assumption | with_reducible exact Below.refl _ _ | ((with_reducible refine Below.alloc ?_ ?_ _); rotate_left; · exact (by first | omega | (simp; done) | (simp; omega))) | ((with_reducible refine Below.setCell ?_ ?_ _); rotate_left; · exact (by first | omega | (simp; done) | (simp; omega))) | with_reducible refine Below.drew ?_ | assumption | exact Below.refl _ _ | refine Below.alloc ?_ (by first | omega | (simp; done) | (simp; omega)) _ | refine Below.setCell ?_ (by first | omega | (simp; done) | (simp; omega)) _ | refine Below.drew ?_))⟩
set_option maxRecDepth 100000 in
set_option maxHeartbeats 1000000 in
theorem idx_any (a : Option Addr) (n c : Nat) (f : Nat → Bx) (w : World) (hn : n ≤ 1099511627776) (hl : BoxesAt w a n f) : Calls Try.prog 68 #[.slice a n c, .func (.func 49) #[] #[]] w (IdxInts (bxsB f n) w) := by
  go_enter Try.func68, Try.ntmps68
  go_wp2
  go_loopw [5, 8] (fun _ i wr => ∃ k : Nat, k ≤ n ∧ i = .int .i64 k ∧ bxsB f k = true ∧ Below w.heap.size w wr) (fun _ i _ => n - (intOf i).toNat)
  case atStart => exact ⟨0, Nat.zero_le _, rfl, rfl, Below.refl _ _⟩
  case round =>
    obtain ⟨k, hk, rfl, hfr, hB⟩ := hrel
    have hFr := Lib.hid hfr
    clear hfr
    by_cases hlt : k < n
    · obtain ⟨b, off, rfl, hbl, hcs⟩ := hl.resolve_left (by omega)
      obtain ⟨g0, g1, g2, g3⟩ := hcs k hlt
      have e0 := (hB.cell (p := ⟨b, off + k * 4, none⟩) hbl).trans g0
      have e1 := (hB.cell (p := ⟨b, off + k * 4 + 1, none⟩) hbl).trans g1
      have e2 := (hB.cell (p := ⟨b, off + k * 4 + 2, none⟩) hbl).trans g2
      have e3 := (hB.cell (p := ⟨b, off + k * 4 + 3, none⟩) hbl).trans g3
      clear g0 g1 g2 g3
      have q1 : (0 : Int) ≤ (k : Int) := by omega
      have q2 : (k : Int) < (n : Int) := by omega
      have hL := Lib.hid hl
      have hCs := Lib.hid hcs
      clear hcs hl
      go_wp2_with fail
      refine (notValid (f k).lx (f k).ly (f k).hx (f k).hy _).mono ?_
      rintro e w1 ⟨rfl, hb1⟩
      cases ht : bxB (f k).lx (f k).ly (f k).hx (f k).hy with
      | false =>
        go_wp2
        go_ret
        exact ⟨k, rfl, (fun h => by rw [bxsB_no ((Bx.ok_eq _).trans ht) _ hlt] at h; cases h), fun _ => by omega, hB.trans (hb1.mono hB.size)⟩
      | true =>
        go_wp2
        go_roundw
        case rel => exact ⟨k + 1, by omega, by go_num, bxsB_yes hFr.out ((Bx.ok_eq _).trans ht), hB.trans (hb1.mono hB.size)⟩
        case measure => simp [intOf]; omega
    · obtain rfl : k = n := by omega
      go_wp2
      go_ret
      exact ⟨-1, rfl, fun _ => rfl, (fun h => by rw [hFr.out] at h; cases h), hB⟩
set_option maxHeartbeats 400000 in
theorem contains_any (a : Option Addr) (n c : Nat) (f : Nat → Bx) (w : World) (hn : n ≤ 1099511627776) (hl : BoxesAt w a n f) : Calls Try.prog 47 #[.slice a n c, .func (.func 49) #[] #[]] w fun e w' => e = .returned (.bool (!bxsB f n)) ∧ Below w.heap.size w w' := by
  go_enter Try.func47, Try.ntmps47
  go_wp2_with fail
  refine (idx_any _ _ _ f _ hn hl).mono ?_
  rintro e w1 ⟨z, rfl, h1, h2, hb1⟩
  cases hx : bxsB f n with
  | true =>
    obtain rfl := h1 hx
    clear h1 h2
    go_wp2
    go_ret
    exact ⟨ret_bool (by simp [hx]), hb1⟩
  | false =>
    have h2 := h2 hx
    clear h1
    go_wp2
    go_ret
    exact ⟨ret_bool (by simp [hx]), hb1⟩
end Go.Proofs.Ytgiadgbfeldheaa

/- The copies and comparisons of vectors, boxes, levels that the exact laws make. -/
import Derived.Test.YtnhjalijnociaaaQai
/- The copies and comparisons of vectors, boxes, levels that the exact laws make. -/
set_option linter.unusedVariables false
namespace Go.Proofs.Ytnhjalijnociaaa
open Go.RowKit
attribute [local go_sem] BelW.cell_eq nl1 nl2 nl3 nl4 nl5 nl6 nl7 nl8 nl9 nl10 nl11

set_option maxHeartbeats 400000 in
theorem toVec_any (x y : Int) (w : World) : Calls Try.prog 68 #[.agg #[.int .i64 x, .int .i64 y]] w fun e w' => e = .returned (.agg #[.int .i64 x, .int .i64 y]) ∧ Below w.heap.size w w' := by
  go_enter Try.func68, Try.ntmps68
  go_wp2
  refine bodyPost_ret (by simp [results, Try.results68, go_sem, *]; try rfl) rfl ?_
  exact ⟨rfl, by (repeat (first | with_reducible assumption | with_reducible exact Below.refl _ _ | ((with_reducible refine Below.alloc ?_ ?_ _); rotate_left; · exact (by first | omega | (simp; done) | (simp; omega))) | ((with_reducible refine Below.setCell ?_ ?_ _); rotate_left; · exact (by first | omega | (simp; done) | (simp; omega))) | with_reducible refine Below.drew ?_ | assumption | exact Below.refl _ _ | refine Below.alloc ?_ (by first | omega | (simp; done) | (simp; omega)) _ | refine Below.setCell ?_ (by first | omega | (simp; done) | (simp; omega)) _ | refine Below.drew ?_))⟩
set_option maxHeartbeats 400000 in
theorem eqVec_any (x y : Int) (w : World) : Calls Try.prog 71 #[.agg #[.int .i64 x, .int .i64 y], .agg #[.int .i64 x, .int .i64 y]] w fun e w' => e = .returned (.bool true) ∧ Below w.heap.size w w' := by
  go_enter Try.func71, Try.ntmps71
  go_wp2
  go_ret
  exact ⟨rfl, by (repeat (first | with_reducible assumption | with_reducible exact Below.refl _ _ | ((with_reducible refine Below.alloc ?_ ?_ _); rotate_left; · exact (by first | omega | (simp; done) | (simp; omega))) | ((with_reducible refine Below.setCell ?_ ?_ _); rotate_left; · exact (by first | omega | (simp; done) | (simp; omega))) | with_reducible refine Below.drew ?_ | assumption | exact Below.refl _ _ | refine Below.alloc ?_ (by first | omega | (simp; done) | (simp; omega)) _ | refine Below.setCell ?_ (by first | omega | (simp; done) | (simp; omega)) _ | refine Below.drew ?_))⟩
set_option maxHeartbeats 1000000 in
theorem toBox_any (a b c d : Int) (w : World) : Calls Try.prog 70 #[.agg #[.int .i64 a, .int .i64 b, .int .i64 c, .int .i64 d]] w fun e w' => e = .returned (.agg #[.int .i64 a, .int .i64 b, .int .i64 c, .int .i64 d]) ∧ Below w.heap.size w w' := by
  go_enter Try.func70, Try.ntmps70
  go_wp2_with fail; refine (toVec_any _ _ _).mono ?_; rintro e w1 ⟨rfl, hb1⟩; obtain ⟨hc1, hf1⟩ := bcell hb1; have hz1 : w.heap.size < w1.heap.size := (by have := hb1.size; first | omega | (simp at this; omega)); have hy1 : w.heap.size < w1.heap.size + 1 := Nat.lt_succ_of_lt hz1; have hB1 : Below w.heap.size w w1 := bstep (by (repeat (first | with_reducible assumption | with_reducible exact Below.refl _ _ | ((with_reducible refine Below.alloc ?_ ?_ _); rotate_left; · exact (by first | omega | (simp; done) | (simp; omega))) | ((with_reducible refine Below.setCell ?_ ?_ _); rotate_left; · exact (by first | omega | (simp; done) | (simp; omega))) | with_reducible refine Below.drew ?_ | assumption | exact Below.refl _ _ | refine Below.alloc ?_ (by first | omega | (simp; done) | (simp; omega)) _ | refine Below.setCell ?_ (by first | omega | (simp; done) | (simp; omega)) _ | refine Below.drew ?_))) (by first | omega | (simp; done) | (simp; omega)) hb1
  try (have hz1b : w.heap.size + 1 < w1.heap.size := (by have := hb1.size; first | omega | (simp at this; omega))); try (have hne1b : w1.heap.size ≠ w.heap.size + 1 := by omega)
  try (have hz1c : w.heap.size + 2 < w1.heap.size := (by have := hb1.size; first | omega | (simp at this; omega))); try (have hne1c : w1.heap.size ≠ w.heap.size + 2 := by omega)
  go_wp2_with fail; refine (toVec_any _ _ _).mono ?_; rintro e w2 ⟨rfl, hb2⟩; obtain ⟨hc2, hf2⟩ := bcell hb2; have hz2 : w.heap.size < w2.heap.size := (by have := hb2.size; first | omega | (simp at this; omega)); have hy2 : w.heap.size < w2.heap.size + 1 := Nat.lt_succ_of_lt hz2; have hB2 : Below w.heap.size w w2 := bstep (by (repeat (first | with_reducible assumption | with_reducible exact Below.refl _ _ | ((with_reducible refine Below.alloc ?_ ?_ _); rotate_left; · exact (by first | omega | (simp; done) | (simp; omega))) | ((with_reducible refine Below.setCell ?_ ?_ _); rotate_left; · exact (by first | omega | (simp; done) | (simp; omega))) | with_reducible refine Below.drew ?_ | assumption | exact Below.refl _ _ | refine Below.alloc ?_ (by first | omega | (simp; done) | (simp; omega)) _ | refine Below.setCell ?_ (by first | omega | (simp; done) | (simp; omega)) _ | refine Below.drew ?_))) (by first | omega | (simp; done) | (simp; omega)) hb2
  try (have hz2b : w.heap.size + 1 < w2.heap.size := (by have := hb2.size; first | omega | (simp at this; omega))); try (have hne2b : w2.heap.size ≠ w.heap.size + 1 := by omega)
  try (have hz2c : w.heap.size + 2 < w2.heap.size := (by have := hb2.size; first | omega | (simp at this; omega))); try (have hne2c : w2.heap.size ≠ w.heap.size + 2 := by omega)
  go_wp2
  refine bodyPost_ret (by simp [results, Try.results70, go_sem, *]; try rfl) rfl ?_
  exact ⟨rfl, by (repeat (first | with_reducible assumption | with_reducible exact Below.refl _ _ | ((with_reducible refine Below.alloc ?_ ?_ _); rotate_left; · exact (by first | omega | (simp; done) | (simp; omega))) | ((with_reducible refine Below.setCell ?_ ?_ _); rotate_left; · exact (by first | omega | (simp; done) | (simp; omega))) | with_reducible refine Below.drew ?_ | assumption | exact Below.refl _ _ | refine Below.alloc ?_ (by first | omega | (simp; done) | (simp; omega)) _ | refine Below.setCell ?_ (by first | omega | (simp; done) | (simp; omega)) _ | refine Below.drew ?_))⟩
set_option maxHeartbeats 400000 in
theorem eqBox_any (a b c d : Int) (w : World) : Calls Try.prog 73 #[.agg #[.int .i64 a, .int .i64 b, .int .i64 c, .int .i64 d], .agg #[.int .i64 a, .int .i64 b, .int .i64 c, .int .i64 d]] w fun e w' => e = .returned (.bool true) ∧ Below w.heap.size w w' := by
  go_enter Try.func73, Try.ntmps73
  go_wp2_with fail; refine (eqVec_any _ _ _).mono ?_; rintro e w1 ⟨rfl, hb1⟩; obtain ⟨hc1, hf1⟩ := bcell hb1; have hz1 : w.heap.size < w1.heap.size := (by have := hb1.size; first | omega | (simp at this; omega)); have hy1 : w.heap.size < w1.heap.size + 1 := Nat.lt_succ_of_lt hz1; have hB1 : Below w.heap.size w w1 := bstep (by (repeat (first | with_reducible assumption | with_reducible exact Below.refl _ _ | ((with_reducible refine Below.alloc ?_ ?_ _); rotate_left; · exact (by first | omega | (simp; done) | (simp; omega))) | ((with_reducible refine Below.setCell ?_ ?_ _); rotate_left; · exact (by first | omega | (simp; done) | (simp; omega))) | with_reducible refine Below.drew ?_ | assumption | exact Below.refl _ _ | refine Below.alloc ?_ (by first | omega | (simp; done) | (simp; omega)) _ | refine Below.setCell ?_ (by first | omega | (simp; done) | (simp; omega)) _ | refine Below.drew ?_))) (by first | omega | (simp; done) | (simp; omega)) hb1
  try (have hz1b : w.heap.size + 1 < w1.heap.size := (by have := hb1.size; first | omega | (simp at this; omega))); try (have hne1b : w1.heap.size ≠ w.heap.size + 1 := by omega)
  go_wp2_with fail; refine (eqVec_any _ _ _).mono ?_; rintro e w2 ⟨rfl, hb2⟩; obtain ⟨hc2, hf2⟩ := bcell hb2; have hz2 : w.heap.size < w2.heap.size := (by have := hb2.size; first | omega | (simp at this; omega)); have hy2 : w.heap.size < w2.heap.size + 1 := Nat.lt_succ_of_lt hz2; have hB2 : Below w.heap.size w w2 := bstep (by (repeat (first | with_reducible assumption | with_reducible exact Below.refl _ _ | ((with_reducible refine Below.alloc ?_ ?_ _); rotate_left; · exact (by first | omega | (simp; done) | (simp; omega))) | ((with_reducible refine Below.setCell ?_ ?_ _); rotate_left; · exact (by first | omega | (simp; done) | (simp; omega))) | with_reducible refine Below.drew ?_ | assumption | exact Below.refl _ _ | refine Below.alloc ?_ (by first | omega | (simp; done) | (simp; omega)) _ | refine Below.setCell ?_ (by first | omega | (simp; done) | (simp; omega)) _ | refine Below.drew ?_))) (by first | omega | (simp; done) | (simp; omega)) hb2
  go_wp2
  go_ret
  exact ⟨rfl, by (repeat (first | with_reducible assumption | with_reducible exact Below.refl _ _ | ((with_reducible refine Below.alloc ?_ ?_ _); rotate_left; · exact (by first | omega | (simp; done) | (simp; omega))) | ((with_reducible refine Below.setCell ?_ ?_ _); rotate_left; · exact (by first | omega | (simp; done) | (simp; omega))) | with_reducible refine Below.drew ?_ | assumption | exact Below.refl _ _ | refine Below.alloc ?_ (by first | omega | (simp; done) | (simp; omega)) _ | refine Below.setCell ?_ (by first | omega | (simp; done) | (simp; omega)) _ | refine Below.drew ?_))⟩
set_option maxRecDepth 100000 in
set_option maxHeartbeats 1000000 in
theorem eqBS (a a' : Option Addr) (n c c' : Nat) (f : Nat → Bx) (w : World) (hn : n ≤ 1099511627776) (hl : BoxesAt w a n f) (hl' : BoxesAt w a' n f) : Calls Try.prog 72 #[.slice a n c, .slice a' n c'] w fun e w' => e = .returned (.bool true) ∧ Below w.heap.size w w' := by
  go_enter Try.func72, Try.ntmps72
  go_wp2
  go_loopw [5] (fun i wr => ∃ k : Nat, k ≤ n ∧ i = .int .i64 k ∧ Below w.heap.size w wr) (fun i _ => n - (intOf i).toNat)
  case atStart => exact ⟨0, Nat.zero_le _, rfl, Below.refl _ _⟩
  case round =>
    obtain ⟨k, hk, rfl, hB⟩ := hrel
    by_cases hlt : k < n
    · obtain ⟨b, off, rfl, hbl, hcs⟩ := hl.resolve_left (by omega)
      obtain ⟨b', off', rfl, hbl', hcs'⟩ := hl'.resolve_left (by omega)
      obtain ⟨g0, g1, g2, g3⟩ := hcs k hlt
      obtain ⟨g0', g1', g2', g3'⟩ := hcs' k hlt
      have e0 := (hB.cell (p := ⟨b, off + k * 4, none⟩) hbl).trans g0
      have e1 := (hB.cell (p := ⟨b, off + k * 4 + 1, none⟩) hbl).trans g1
      have e2 := (hB.cell (p := ⟨b, off + k * 4 + 2, none⟩) hbl).trans g2
      have e3 := (hB.cell (p := ⟨b, off + k * 4 + 3, none⟩) hbl).trans g3
      have e0' := (hB.cell (p := ⟨b', off' + k * 4, none⟩) hbl').trans g0'
      have e1' := (hB.cell (p := ⟨b', off' + k * 4 + 1, none⟩) hbl').trans g1'
      have e2' := (hB.cell (p := ⟨b', off' + k * 4 + 2, none⟩) hbl').trans g2'
      have e3' := (hB.cell (p := ⟨b', off' + k * 4 + 3, none⟩) hbl').trans g3'
      clear g0 g1 g2 g3 g0' g1' g2' g3'
      have hsz := hB.size
      have hbr : b < wr.heap.size := by omega
      have hbr' : b' < wr.heap.size := by omega
      have q1 : (0 : Int) ≤ (k : Int) := by omega
      have q2 : (k : Int) < (n : Int) := by omega
      have hL := Lib.hid hl
      have hCs := Lib.hid hcs
      have hL' := Lib.hid hl'
      have hCs' := Lib.hid hcs'
      clear hcs hl hcs' hl'
      go_wp2_with fail
      refine region_bel (by kernel_rfl) (by kernel_rfl) ?_; (repeat (first | go_big_quiet_step ((go_at_call 73; exact calls_bel (eqBox_any _ _ _ _ _))) | quiet_step ((go_at_call 73; exact calls_bel (eqBox_any _ _ _ _ _))))); refine wpQuiet_nil ?_; intro w1 hwq; obtain ⟨⟨wq, hb1⟩, hwq⟩ := hwq; dsimp only at hwq; subst hwq; obtain ⟨hc1, hf1⟩ := bcell hb1
      go_wp2
      go_roundw
      case rel => exact ⟨k + 1, by omega, by go_num, hB.trans (hb1.mono hB.size)⟩
      case measure => simp [intOf]; omega
    · obtain rfl : k = n := by omega
      go_wp2
      go_ret
      exact ⟨rfl, hB⟩
theorem set4_at {xs : List Value} {f : Nat → Bx} {k : Nat} (h : ∀ i, i < k → ∀ j, j < 4 → xs[i * 4 + j]? = (f i).cells[j]?) (hl : k * 4 + 3 < xs.length) :
    ∀ i, i < k + 1 → ∀ j, j < 4 → ((((xs.set (k * 4) (.int .i64 (f k).lx)).set (k * 4 + 1) (.int .i64 (f k).ly)).set (k * 4 + 2) (.int .i64 (f k).hx)).set (k * 4 + 3) (.int .i64 (f k).hy))[i * 4 + j]? = (f i).cells[j]? := by
  intro i hi j hj
  by_cases e : i = k
  · subst e
    have hm : j = 0 ∨ j = 1 ∨ j = 2 ∨ j = 3 := by omega
    rcases hm with rfl | rfl | rfl | rfl
    · rw [List.getElem?_set_ne (by omega), List.getElem?_set_ne (by omega), List.getElem?_set_ne (by omega), Nat.add_zero, List.getElem?_set_self (by omega)]; rfl
    · rw [List.getElem?_set_ne (by omega), List.getElem?_set_ne (by omega), List.getElem?_set_self (by simp; omega)]; rfl
    · rw [List.getElem?_set_ne (by omega), List.getElem?_set_self (by simp; omega)]; rfl
    · rw [List.getElem?_set_self (by simp; omega)]; rfl
  · rw [List.getElem?_set_ne (by omega), List.getElem?_set_ne (by omega), List.getElem?_set_ne (by omega), List.getElem?_set_ne (by omega)]
    exact h i (by omega) j hj
theorem bvals_of {xs : List Value} {f : Nat → Bx} {n : Nat} (hl : xs.length = n * 4) (h : ∀ i, i < n → ∀ j, j < 4 → xs[i * 4 + j]? = (f i).cells[j]?) : xs = bvals f n := by
  apply List.ext_getElem?
  intro m
  by_cases hm : m < n * 4
  · have e : m = m / 4 * 4 + m % 4 := by omega
    rw [e, h (m / 4) (by omega) (m % 4) (by omega), bvals_at f (by omega) (by omega)]
  · rw [List.getElem?_eq_none (by omega), List.getElem?_eq_none (by rw [bvals_len]; omega)]
theorem own4 {w : World} {base g n cap k : Nat} {xs : List Value} (h : w.ownsRow base 27 4 (.slice (some ⟨g, 0, none⟩) n cap) n xs) (a b c d : Value) :
    ((((w.setCell ⟨g, k * 4, none⟩ a).setCell ⟨g, k * 4 + 1, none⟩ b).setCell ⟨g, k * 4 + 2, none⟩ c).setCell ⟨g, k * 4 + 3, none⟩ d).ownsRow base 27 4 (.slice (some ⟨g, 0, none⟩) n cap) n ((((xs.set (k * 4) a).set (k * 4 + 1) b).set (k * 4 + 2) c).set (k * 4 + 3) d) :=
  ((((h.stored _ a).1.stored _ b).1.stored _ c).1.stored _ d).1
theorem below4 {B : Nat} {w w' : World} (h : Below B w w') {g k : Nat} (hg : B ≤ g) (a b c d : Value) : Below B w ((((w'.setCell ⟨g, k * 4, none⟩ a).setCell ⟨g, k * 4 + 1, none⟩ b).setCell ⟨g, k * 4 + 2, none⟩ c).setCell ⟨g, k * 4 + 3, none⟩ d) :=
  (((h.setCell (p := ⟨g, k * 4, none⟩) hg _).setCell (p := ⟨g, k * 4 + 1, none⟩) hg _).setCell (p := ⟨g, k * 4 + 2, none⟩) hg _).setCell (p := ⟨g, k * 4 + 3, none⟩) hg _
set_option maxRecDepth 100000 in
set_option maxHeartbeats 2000000 in
theorem toBS (a : Option Addr) (n c : Nat) (f : Nat → Bx) (w : World) (hn : n ≤ 1048576) (hl : BoxesAt w a n f) : Calls Try.prog 69 #[.slice a n c] w (NewBoxes n f w) := by
  obtain ⟨i0, hi, hz0, hz1, hz2⟩ := info_parts infoBox
  go_enter Try.func69, Try.ntmps69
  go_wp2_with (at_make; refine wpList_make_full _ rfl _ _ 25 rfl w.heap.size 27 i0 _ 4 Try.underlying25 hi hz0 hz1 .i64 .i64 _ _ n rfl rfl rfl rfl (by rw [hz2]; omega) (by unfold maxLen; omega) (Nat.le_refl _) ?_; intro w0 hown0 hgrow0)
  go_loopw [4] (fun i wr => ∃ (k : Nat) (xs : List Value), k ≤ n ∧ i = .int .i64 k ∧ wr.ownsRow w.heap.size 27 4 (.slice (some ⟨w.heap.size, 0, none⟩) n n) n xs ∧ (∀ i, i < k → ∀ j, j < 4 → xs[i * 4 + j]? = (f i).cells[j]?) ∧ Below w.heap.size w wr) (fun i _ => n - (intOf i).toNat)
  case atStart => exact ⟨0, _, Nat.zero_le _, rfl, hown0, fun j hj => absurd hj (Nat.not_lt_zero _), (Below.refl _ _).grown hgrow0 (Nat.le_refl _) (fun k h => by cases h)⟩
  case round =>
    obtain ⟨k, xs, hk, rfl, hown, hxs, hB⟩ := hrel
    have hXs := Lib.hid hxs
    clear hxs
    by_cases hlt : k < n
    · obtain ⟨b, off, rfl, hbl, hcs⟩ := hl.resolve_left (by omega)
      obtain ⟨g0, g1, g2, g3⟩ := hcs k hlt
      have e0 := (hB.cell (p := ⟨b, off + k * 4, none⟩) hbl).trans g0
      have e1 := (hB.cell (p := ⟨b, off + k * 4 + 1, none⟩) hbl).trans g1
      have e2 := (hB.cell (p := ⟨b, off + k * 4 + 2, none⟩) hbl).trans g2
      have e3 := (hB.cell (p := ⟨b, off + k * 4 + 3, none⟩) hbl).trans g3
      clear g0 g1 g2 g3
      have q1 : (0 : Int) ≤ (k : Int) := by omega
      have q2 : (k : Int) < (n : Int) := by omega
      have hL := Lib.hid hl
      have hCs := Lib.hid hcs
      clear hcs hl
      go_wp2_with fail
      refine (toBox_any _ _ _ _ _).mono ?_
      rintro e w1 ⟨rfl, hb1⟩
      have hlen : xs.length = n * 4 := hown.1
      have hown1 : w1.ownsRow w.heap.size 27 4 (.slice (some ⟨w.heap.size, 0, none⟩) n n) n xs := by
        obtain ⟨h1, h2⟩ := hown
        refine ⟨h1, ?_⟩
        rcases h2 with h2 | ⟨g, cap, cur, hv, hgb, hg, h3⟩
        · exact .inl h2
        · exact .inr ⟨g, cap, cur, hv, hgb, (hb1.block g (Array.getElem?_eq_some_iff.1 hg).1).trans hg, h3⟩
      have hz1 : w.heap.size < w1.heap.size := (hown1.lt _ rfl).2
      obtain ⟨u0, hu0⟩ : ∃ u, w1.cell? ⟨w.heap.size, k * 4, none⟩ = some u := ⟨xs[k * 4], by rw [hown1.cellAt (k * 4) (by omega)]; exact List.getElem?_eq_getElem (by omega)⟩
      obtain ⟨u1, hu1⟩ : ∃ u, w1.cell? ⟨w.heap.size, k * 4 + 1, none⟩ = some u := ⟨xs[k * 4 + 1], by rw [hown1.cellAt (k * 4 + 1) (by omega)]; exact List.getElem?_eq_getElem (by omega)⟩
      obtain ⟨u2, hu2⟩ : ∃ u, w1.cell? ⟨w.heap.size, k * 4 + 2, none⟩ = some u := ⟨xs[k * 4 + 2], by rw [hown1.cellAt (k * 4 + 2) (by omega)]; exact List.getElem?_eq_getElem (by omega)⟩
      obtain ⟨u3, hu3⟩ : ∃ u, w1.cell? ⟨w.heap.size, k * 4 + 3, none⟩ = some u := ⟨xs[k * 4 + 3], by rw [hown1.cellAt (k * 4 + 3) (by omega)]; exact List.getElem?_eq_getElem (by omega)⟩
      have hf0 := hown1.frozenAt (k * 4)
      have hf1 := hown1.frozenAt (k * 4 + 1)
      have hf2 := hown1.frozenAt (k * 4 + 2)
      have hf3 := hown1.frozenAt (k * 4 + 3)
      have hLen := Lib.hid hlen
      clear hlen hown
      go_wp2
      go_roundw
      case rel => exact ⟨k + 1, _, by omega, by go_num, own4 hown1 _ _ _ _, set4_at hXs.out (by rw [hLen.out]; omega), below4 (hB.trans (hb1.mono hB.size)) (Nat.le_refl _) _ _ _ _⟩
      case measure => simp [intOf]; omega
    · obtain rfl : k = n := by omega
      go_wp2
      go_ret
      have hlt := (hown.lt _ rfl)
      have hv := bvals_of hown.1 hXs.out
      subst hv
      exact ⟨_, _, rfl, boxes_own hown, hlt.1, hlt.2, hB⟩
end Go.Proofs.Ytnhjalijnociaaa

/- What is forbidden in a level, whether the car is free at a point: of the program and of the reference. -/
namespace Go.Proofs.Ytnhjalijnociaaa
open Go.RowKit
attribute [local go_sem] BelW.cell_eq nl1 nl2 nl3 nl4 nl5 nl6 nl7 nl8 nl9 nl10 nl11

theorem Lv.ok_id {l : Lv} (h : l.ok = true) : inB l.id 0 99 = true ∧ inB l.ticks 1 60 = true ∧ vokB l.sx l.sy = true ∧ l.wn ≤ 4 ∧ bxsB l.wf l.wn = true ∧ l.gn ≤ 3 ∧ bxsB l.gf l.gn = true ∧ bxB l.flx l.fly l.fhx l.fhy = true ∧ inB l.bans 0 3 = true ∧ frB l.wf l.sx l.sy l.wn = true := by
  simp only [Lv.ok, Bool.and_eq_true, decide_eq_true_eq] at h
  obtain ⟨⟨⟨⟨⟨⟨⟨⟨⟨h1, h2⟩, h3⟩, h4⟩, h5⟩, h6⟩, h7⟩, h8⟩, h9⟩, h10⟩ := h
  exact ⟨h1, h2, h3, h4, h5, h6, h7, h8, h9, h10⟩

/-- a number's bit -/
def banB (b n : Int) : Bool := b / n % 2 == 1
theorem and_bits : bits .and .i64 0 1 = 0 ∧ bits .and .i64 0 2 = 0 ∧ bits .and .i64 1 1 = 1 ∧ bits .and .i64 1 2 = 0 ∧ bits .and .i64 2 1 = 0 ∧ bits .and .i64 2 2 = 2 ∧ bits .and .i64 3 1 = 1 ∧ bits .and .i64 3 2 = 2 := by decide +kernel
theorem and_ban {b n : Int} (h0 : 0 ≤ b) (h3 : b ≤ 3) (hn : n = 1 ∨ n = 2) : (!(bits .and .i64 b n == 0)) = banB b n := by
  obtain ⟨e1, e2, e3, e4, e5, e6, e7, e8⟩ := and_bits
  have hb : b = 0 ∨ b = 1 ∨ b = 2 ∨ b = 3 := by omega
  rcases hb with rfl | rfl | rfl | rfl <;> rcases hn with rfl | rfl
  · rw [e1]; rfl
  · rw [e2]; rfl
  · rw [e3]; rfl
  · rw [e4]; rfl
  · rw [e5]; rfl
  · rw [e6]; rfl
  · rw [e7]; rfl
  · rw [e8]; rfl

set_option maxHeartbeats 400000 in
theorem iBans (l : Lv) (n : Int) (w : World) (h0 : 0 ≤ l.bans) (h3 : l.bans ≤ 3) (hn : n = 1 ∨ n = 2) : Calls Try.prog 134 #[.agg #[.int .i64 l.id, .int .i64 l.ticks, .int .i64 l.sx, .int .i64 l.sy, .slice l.wa l.wn l.wc, .slice l.ga l.gn l.gc, .int .i64 l.flx, .int .i64 l.fly, .int .i64 l.fhx, .int .i64 l.fhy, .int .i64 l.bans], .int .i64 n] w fun e w' => e = .returned (.bool (banB l.bans n)) ∧ Below w.heap.size w w' := by
  have hh := Lib.hid (and_ban h0 h3 hn)
  have hN := Lib.hid hn
  clear hn
  go_enter Try.func134, Try.ntmps134
  go_wp2
  go_ret
  exact ⟨ret_bool (by rw [← hh.out]; rfl), by (repeat (first | with_reducible assumption | with_reducible exact Below.refl _ _ | ((with_reducible refine Below.alloc ?_ ?_ _); rotate_left; · exact (by first | omega | (simp; done) | (simp; omega))) | ((with_reducible refine Below.setCell ?_ ?_ _); rotate_left; · exact (by first | omega | (simp; done) | (simp; omega))) | with_reducible refine Below.drew ?_ | assumption | exact Below.refl _ _ | refine Below.alloc ?_ (by first | omega | (simp; done) | (simp; omega)) _ | refine Below.setCell ?_ (by first | omega | (simp; done) | (simp; omega)) _ | refine Below.drew ?_))⟩
set_option maxHeartbeats 400000 in
theorem sBans (l : Lv) (n : Int) (w : World) (h0 : 0 ≤ l.bans) (h3 : l.bans ≤ 3) (hn : n = 1 ∨ n = 2) : Calls Try.prog 96 #[.agg #[.int .i64 l.id, .int .i64 l.ticks, .int .i64 l.sx, .int .i64 l.sy, .slice l.wa l.wn l.wc, .slice l.ga l.gn l.gc, .int .i64 l.flx, .int .i64 l.fly, .int .i64 l.fhx, .int .i64 l.fhy, .int .i64 l.bans], .int .i64 n] w fun e w' => e = .returned (.bool (banB l.bans n)) ∧ Below w.heap.size w w' := by
  rcases hn with rfl | rfl
  all_goals
    go_enter Try.func96, Try.ntmps96
    go_wp2
    go_ret
    exact ⟨ret_bool (by simp [banB]), by (repeat (first | with_reducible assumption | with_reducible exact Below.refl _ _ | ((with_reducible refine Below.alloc ?_ ?_ _); rotate_left; · exact (by first | omega | (simp; done) | (simp; omega))) | ((with_reducible refine Below.setCell ?_ ?_ _); rotate_left; · exact (by first | omega | (simp; done) | (simp; omega))) | with_reducible refine Below.drew ?_ | assumption | exact Below.refl _ _ | refine Below.alloc ?_ (by first | omega | (simp; done) | (simp; omega)) _ | refine Below.setCell ?_ (by first | omega | (simp; done) | (simp; omega)) _ | refine Below.drew ?_))⟩
/-- a level forbids something -/
def Lv.bansB (l : Lv) (n : Int) : Bool := l.ok && (decide (n = 1) || decide (n = 2)) && banB l.bans n
set_option maxRecDepth 100000 in
set_option maxHeartbeats 1000000 in
theorem sLevelBans (l : Lv) (n : Int) (w : World) (hn1 : l.wn ≤ 1099511627776) (hn2 : l.gn ≤ 1099511627776) (hl : LvAt w l) : Calls Try.prog 54 #[.agg #[.int .i64 l.id, .int .i64 l.ticks, .int .i64 l.sx, .int .i64 l.sy, .slice l.wa l.wn l.wc, .slice l.ga l.gn l.gc, .int .i64 l.flx, .int .i64 l.fly, .int .i64 l.fhx, .int .i64 l.fhy, .int .i64 l.bans], .int .i64 n] w fun e w' => e = .returned (.bool (l.bansB n)) ∧ Below w.heap.size w w' := by
  go_enter Try.func54, Try.ntmps54
  go_wp2_with fail
  refine (sLevelValid l _ hn1 hn2 (hl.keep (by (repeat (first | with_reducible assumption | with_reducible exact Below.refl _ _ | ((with_reducible refine Below.alloc ?_ ?_ _); rotate_left; · exact (by first | omega | (simp; done) | (simp; omega))) | ((with_reducible refine Below.setCell ?_ ?_ _); rotate_left; · exact (by first | omega | (simp; done) | (simp; omega))) | with_reducible refine Below.drew ?_ | assumption | exact Below.refl _ _ | refine Below.alloc ?_ (by first | omega | (simp; done) | (simp; omega)) _ | refine Below.setCell ?_ (by first | omega | (simp; done) | (simp; omega)) _ | refine Below.drew ?_))))).mono ?_
  rintro e w1 ⟨rfl, hb1⟩; obtain ⟨hc1, hf1⟩ := bcell hb1; have hz1 : w.heap.size < w1.heap.size := (by have := hb1.size; first | omega | (simp at this; omega)); have hy1 : w.heap.size < w1.heap.size + 1 := Nat.lt_succ_of_lt hz1; have hB1 : Below w.heap.size w w1 := bstep (by (repeat (first | with_reducible assumption | with_reducible exact Below.refl _ _ | ((with_reducible refine Below.alloc ?_ ?_ _); rotate_left; · exact (by first | omega | (simp; done) | (simp; omega))) | ((with_reducible refine Below.setCell ?_ ?_ _); rotate_left; · exact (by first | omega | (simp; done) | (simp; omega))) | with_reducible refine Below.drew ?_ | assumption | exact Below.refl _ _ | refine Below.alloc ?_ (by first | omega | (simp; done) | (simp; omega)) _ | refine Below.setCell ?_ (by first | omega | (simp; done) | (simp; omega)) _ | refine Below.drew ?_))) (by first | omega | (simp; done) | (simp; omega)) hb1
  cases h1 : l.ok with
  | false =>
    go_wp2
    go_ret
    exact ⟨ret_bool (by simp [Lv.bansB, h1]), by (repeat (first | with_reducible assumption | with_reducible exact Below.refl _ _ | ((with_reducible refine Below.alloc ?_ ?_ _); rotate_left; · exact (by first | omega | (simp; done) | (simp; omega))) | ((with_reducible refine Below.setCell ?_ ?_ _); rotate_left; · exact (by first | omega | (simp; done) | (simp; omega))) | with_reducible refine Below.drew ?_ | assumption | exact Below.refl _ _ | refine Below.alloc ?_ (by first | omega | (simp; done) | (simp; omega)) _ | refine Below.setCell ?_ (by first | omega | (simp; done) | (simp; omega)) _ | refine Below.drew ?_))⟩
  | true =>
    obtain ⟨_, _, _, _, _, _, _, _, h9, _⟩ := Lv.ok_id h1
    have hb := inB_true h9
    cases h2 : inB n 1 2 with
    | false =>
      have hne := inB_false h2
      have e1 : n ≠ 1 := by omega
      have e2 : n ≠ 2 := by omega
      have hE := Lib.hid (And.intro e1 e2)
      clear e1 e2 hne
      go_wp2_with (go_at_call 79; refine (sIn _ _ _ _).mono ?_; rintro e w' ⟨rfl, rfl⟩)
      go_ret
      exact ⟨ret_bool (by simp [Lv.bansB, hE.out.1, hE.out.2]), by (repeat (first | with_reducible assumption | with_reducible exact Below.refl _ _ | ((with_reducible refine Below.alloc ?_ ?_ _); rotate_left; · exact (by first | omega | (simp; done) | (simp; omega))) | ((with_reducible refine Below.setCell ?_ ?_ _); rotate_left; · exact (by first | omega | (simp; done) | (simp; omega))) | with_reducible refine Below.drew ?_ | assumption | exact Below.refl _ _ | refine Below.alloc ?_ (by first | omega | (simp; done) | (simp; omega)) _ | refine Below.setCell ?_ (by first | omega | (simp; done) | (simp; omega)) _ | refine Below.drew ?_))⟩
    | true =>
      have hne := inB_true h2
      have e12 : n = 1 ∨ n = 2 := by omega
      have hE := Lib.hid e12
      clear e12
      go_wp2_with first | (go_at_call 79; refine (sIn _ _ _ _).mono ?_; rintro e w' ⟨rfl, rfl⟩) | fail
      refine (sBans l n _ hb.1 hb.2 hE.out).mono ?_
      rintro e w2 ⟨rfl, hb2⟩; obtain ⟨hc2, hf2⟩ := bcell hb2; have hz2 : w.heap.size < w2.heap.size := (by have := hb2.size; first | omega | (simp at this; omega)); have hy2 : w.heap.size < w2.heap.size + 1 := Nat.lt_succ_of_lt hz2; have hB2 : Below w.heap.size w w2 := bstep (by (repeat (first | with_reducible assumption | with_reducible exact Below.refl _ _ | ((with_reducible refine Below.alloc ?_ ?_ _); rotate_left; · exact (by first | omega | (simp; done) | (simp; omega))) | ((with_reducible refine Below.setCell ?_ ?_ _); rotate_left; · exact (by first | omega | (simp; done) | (simp; omega))) | with_reducible refine Below.drew ?_ | assumption | exact Below.refl _ _ | refine Below.alloc ?_ (by first | omega | (simp; done) | (simp; omega)) _ | refine Below.setCell ?_ (by first | omega | (simp; done) | (simp; omega)) _ | refine Below.drew ?_))) (by first | omega | (simp; done) | (simp; omega)) hb2
      go_wp2
      go_ret
      exact ⟨ret_bool (by rcases hE.out with e | e <;> simp [Lv.bansB, h1, e]), by (repeat (first | with_reducible assumption | with_reducible exact Below.refl _ _ | ((with_reducible refine Below.alloc ?_ ?_ _); rotate_left; · exact (by first | omega | (simp; done) | (simp; omega))) | ((with_reducible refine Below.setCell ?_ ?_ _); rotate_left; · exact (by first | omega | (simp; done) | (simp; omega))) | with_reducible refine Below.drew ?_ | assumption | exact Below.refl _ _ | refine Below.alloc ?_ (by first | omega | (simp; done) | (simp; omega)) _ | refine Below.setCell ?_ (by first | omega | (simp; done) | (simp; omega)) _ | refine Below.drew ?_))⟩
end Go.Proofs.Ytnhjalijnociaaa

/- Plain laws: which inputs follow, which lists of inputs are legal. -/
set_option linter.unusedVariables false
namespace Go.Proofs.Ytnhjalijnociaaa
open Go.RowKit

/-- an input -/
structure Inp where
  s : Int
  p : Int
  b : Bool
/-- an input follows one that steers by a number -/
def Lv.fol (l : Lv) (t : Int) (x : Inp) : Bool := inpV x.s x.p x.b && !(x.b && banB l.bans 2) && !(x.p == 2 && banB l.bans 1) && inB (x.s - t) (-1) 1
def Lv.folV (l : Lv) (a x : Inp) : Bool := l.ok && inpV a.s a.p a.b && l.fol a.s x
/-- the pauses among the first k inputs; how the input ahead of the k-th steers -/
def pz (f : Nat → Inp) : Nat → Nat
  | 0 => 0
  | k + 1 => pz f k + (if (f k).b then 1 else 0)
def stE (f : Nat → Inp) : Nat → Int
  | 0 => 0
  | k + 1 => (f k).s
theorem pz_le (f : Nat → Inp) : ∀ k, pz f k ≤ k
  | 0 => Nat.le_refl _
  | k + 1 => by
    have := pz_le f k
    rw [pz]
    split <;> omega
/-- the k-th input is not legal -/
def Lv.bad (l : Lv) (f : Nat → Inp) (k : Nat) : Bool := decide (l.ticks ≤ (k : Int)) || decide (3 < pz f (k + 1)) || !l.fol (stE f k) (f k)
/-- the first k are legal -/
def Lv.good (l : Lv) (f : Nat → Inp) : Nat → Bool
  | 0 => true
  | k + 1 => l.good f k && !l.bad f k
/-- the first one that is not legal, or -1 -/
def Lv.leg (l : Lv) (f : Nat → Inp) : Nat → Int
  | 0 => -1
  | k + 1 => if l.good f k then (if l.bad f k then (k : Int) else -1) else l.leg f k
def Lv.legV (l : Lv) (f : Nat → Inp) (n : Nat) : Int := if l.ok then l.leg f n else 0
theorem Lv.leg_good {l : Lv} {f : Nat → Inp} : ∀ {n : Nat}, l.good f n = true → l.leg f n = -1
  | 0, _ => rfl
  | n + 1, h => by
    simp only [Lv.good, Bool.and_eq_true, Bool.not_eq_true'] at h
    simp [Lv.leg, h.1, h.2]
theorem Lv.leg_bad {l : Lv} {f : Nat → Inp} {k : Nat} (h : l.good f k = true) (hb : l.bad f k = true) : ∀ n, k < n → l.leg f n = k
  | 0, hn => absurd hn (Nat.not_lt_zero _)
  | n + 1, hn => by
    by_cases e : k = n
    · subst e; simp [Lv.leg, h, hb]
    · have hg : ∀ m, k < m → l.good f m = false := by
        intro m
        induction m with
        | zero => intro h; omega
        | succ m ih =>
          intro hm
          by_cases e2 : k = m
          · subst e2; simp [Lv.good, hb]
          · simp [Lv.good, ih (by omega)]
      rw [Lv.leg, hg n (by omega)]
      exact Lv.leg_bad h hb n (by omega)
theorem Lv.good_yes {l : Lv} {f : Nat → Inp} {k : Nat} (h : l.good f k = true) (hb : l.bad f k = false) : l.good f (k + 1) = true := by simp [Lv.good, h, hb]
theorem Lv.good_le {l : Lv} {f : Nat → Inp} : ∀ {n : Nat}, l.good f n = true → ∀ k, k ≤ n → l.good f k = true
  | 0, h, k, hk => by have e : k = 0 := (by omega); rw [e]; exact h
  | n + 1, h, k, hk => by
    by_cases e : k = n + 1
    · subst e; exact h
    · simp only [Lv.good, Bool.and_eq_true] at h
      exact Lv.good_le h.1 k (by omega)
theorem Lv.good_at {l : Lv} {f : Nat → Inp} {n k : Nat} (h : l.good f n = true) (hk : k < n) : l.bad f k = false := by
  have := Lv.good_le h (k + 1) (by omega)
  simp only [Lv.good, Bool.and_eq_true, Bool.not_eq_true'] at this
  exact this.2
/-- either all are legal, or there is a first one that is not -/
theorem Lv.leg_cases (l : Lv) (f : Nat → Inp) : ∀ n, (l.good f n = true ∧ l.leg f n = -1) ∨ ∃ k, k < n ∧ l.good f k = true ∧ l.bad f k = true ∧ l.leg f n = (k : Int)
  | 0 => .inl ⟨rfl, rfl⟩
  | n + 1 => by
    rcases Lv.leg_cases l f n with ⟨h, _⟩ | ⟨k, hk, h1, h2, _⟩
    · cases e : l.bad f n with
      | false => exact .inl ⟨Lv.good_yes h e, Lv.leg_good (Lv.good_yes h e)⟩
      | true => exact .inr ⟨n, by omega, h, e, Lv.leg_bad h e _ (by omega)⟩
    · exact .inr ⟨k, by omega, h1, h2, Lv.leg_bad h1 h2 _ (by omega)⟩
theorem Lv.leg_prefix {l : Lv} {f : Nat → Inp} {n k : Nat} (h : l.leg f n < 0) (hk : k ≤ n) : l.leg f k = -1 := by
  rcases Lv.leg_cases l f n with ⟨h1, _⟩ | ⟨j, _, _, _, h2⟩
  · exact Lv.leg_good (Lv.good_le h1 k hk)
  · omega
theorem Lv.leg_cut {l : Lv} {f : Nat → Inp} {n k : Nat} (h : l.leg f n = (k : Int)) : k < n ∧ l.leg f k = -1 ∧ l.leg f (k + 1) = (k : Int) := by
  rcases Lv.leg_cases l f n with ⟨_, h1⟩ | ⟨j, hj, h1, h2, h3⟩
  · omega
  · obtain rfl : j = k := by omega
    exact ⟨hj, Lv.leg_good h1, Lv.leg_bad h1 h2 _ (by omega)⟩
theorem Lv.leg_bd (l : Lv) (f : Nat → Inp) (n : Nat) : -1 ≤ l.leg f n ∧ l.leg f n < (n : Int) + 1 := by
  rcases Lv.leg_cases l f n with ⟨_, h1⟩ | ⟨j, hj, h1, h2, h3⟩ <;> omega
end Go.Proofs.Ytnhjalijnociaaa

/- The program's free: whether the car is free at a point. -/
import Derived.Test.YtgiadgbfeldheaaLa
import Derived.Test.YtgiadgbfeldheaaBk
import Derived.Deep.LoopGhost
namespace Go.Proofs.Ytgiadgbfeldheaa
open Go.RowKit Go.Shelf

theorem linked_any (a : Option Addr) (len cap : Nat) (f : Nat → Bx) (hreach : len ≤ 1099511627776) (w : World) (hI : BoxesAt w a len f) : Calls Try.prog 55 #[.slice a len cap] w (LinkedBoxes len f w) :=
  callsIn_wide.1 (linked_in Fence.wide 6 trivial trivial trivial rfl (Nat.le_refl _) a len cap f hreach w hI)
/-- the boxes from the k-th on, m of them -/
def dr (f : Nat → Bx) : Nat → Nat → List Bx
  | _, 0 => []
  | k, m + 1 => f k :: dr f (k + 1) m
theorem dr_eq (f : Nat → Bx) : ∀ m k, (List.range m).map (fun j => f (k + j)) = dr f k m
  | 0, _ => rfl
  | m + 1, k => by
    rw [List.range_succ_eq_map, List.map_cons, List.map_map, dr, ← dr_eq f m (k + 1)]
    congr 1
    apply List.map_congr_left
    intro j _
    show f (k + (j + 1)) = f (k + 1 + j)
    congr 1
    omega
theorem dr_all (f : Nat → Bx) (n : Nat) : (List.range n).map f = dr f 0 n := by
  rw [← dr_eq f n 0]
  apply List.map_congr_left
  intro j _
  rw [Nat.zero_add]
theorem ChainL.below {base : Nat} {W W' : World} {p : Option Addr} {bs : List Bx} (h : ChainL base W p bs) (hb : Below W.heap.size W W') : ChainL base W' p bs :=
  h.mono (Nat.le_refl _) fun g _ _ ho _ => (hb.block g (Array.getElem?_eq_some_iff.1 ho).1).trans ho

set_option maxRecDepth 100000 in
set_option maxHeartbeats 2000000 in
theorem iFree (l : Lv) (x y : Int) (w : World) (hn : l.wn ≤ 1099511627776) (hl : BoxesAt w l.wa l.wn l.wf) (hv : bxsB l.wf l.wn = true) (hx1 : -3000000 ≤ x) (hx2 : x ≤ 3000000) (hy1 : -3000000 ≤ y) (hy2 : y ≤ 3000000) : Calls Try.prog 34 #[.agg #[.int .i64 l.id, .int .i64 l.ticks, .int .i64 l.sx, .int .i64 l.sy, .slice l.wa l.wn l.wc, .slice l.ga l.gn l.gc, .int .i64 l.flx, .int .i64 l.fly, .int .i64 l.fhx, .int .i64 l.fhy, .int .i64 l.bans], .agg #[.int .i64 x, .int .i64 y]] w fun e w' => e = .returned (.bool (frB l.wf x y l.wn)) ∧ Below w.heap.size w w' := by
  obtain ⟨lid, lticks, lsx, lsy, wa, wn, wc, ga, gn, gc, flx, fly, fhx, fhy, bans, wf, gf⟩ := l
  simp only at hn hl hv ⊢
  go_enter Try.func34, Try.ntmps34
  go_wp2_with fail
  refine (linked_any _ _ _ wf hn _ (hl.keep (by (repeat (first | with_reducible assumption | with_reducible exact Below.refl _ _ | ((with_reducible refine Below.alloc ?_ ?_ _); rotate_left; · exact (by first | omega | (simp; done) | (simp; omega))) | ((with_reducible refine Below.setCell ?_ ?_ _); rotate_left; · exact (by first | omega | (simp; done) | (simp; omega))) | with_reducible refine Below.drew ?_ | assumption | exact Below.refl _ _ | refine Below.alloc ?_ (by first | omega | (simp; done) | (simp; omega)) _ | refine Below.setCell ?_ (by first | omega | (simp; done) | (simp; omega)) _ | refine Below.drew ?_))))).mono ?_
  rintro e w1 ⟨q, rfl, hch, hb1⟩
  obtain ⟨hc1, hf1⟩ := bcell hb1
  have hv0 : w1.cell? ⟨w.heap.size + 1, 0, none⟩ = some (.int .i64 x) := (hb1.cell (p := ⟨w.heap.size + 1, 0, none⟩) (by simp)).trans (by simp)
  have hv1 : w1.cell? ⟨w.heap.size + 1, 1, none⟩ = some (.int .i64 y) := (hb1.cell (p := ⟨w.heap.size + 1, 1, none⟩) (by simp)).trans (by simp)
  have hB1 : Below w.heap.size w w1 := bstep (by (repeat (first | with_reducible assumption | with_reducible exact Below.refl _ _ | ((with_reducible refine Below.alloc ?_ ?_ _); rotate_left; · exact (by first | omega | (simp; done) | (simp; omega))) | ((with_reducible refine Below.setCell ?_ ?_ _); rotate_left; · exact (by first | omega | (simp; done) | (simp; omega))) | with_reducible refine Below.drew ?_ | assumption | exact Below.refl _ _ | refine Below.alloc ?_ (by first | omega | (simp; done) | (simp; omega)) _ | refine Below.setCell ?_ (by first | omega | (simp; done) | (simp; omega)) _ | refine Below.drew ?_))) (by first | omega | (simp; done) | (simp; omega)) hb1
  have hz1 : w.heap.size + 2 ≤ w1.heap.size := by have := hb1.size; simp at this; omega
  rw [dr_all] at hch
  have hch : ChainL (w.heap.size + 2) w1 q (dr wf 0 wn) := by simpa using hch
  clear hc1 hf1 hb1
  have hV := Lib.hid hv
  clear hv
  go_wp2_with fail
  go_loopg [5] wn (fun m u wr => ∃ p, u = .pointer p ∧ m ≤ wn ∧ ChainL (w.heap.size + 2) wr p (dr wf (wn - m) m) ∧ frB wf x y (wn - m) = true ∧ wr.cell? ⟨w.heap.size + 1, 0, none⟩ = some (.int .i64 x) ∧ wr.cell? ⟨w.heap.size + 1, 1, none⟩ = some (.int .i64 y) ∧ w.heap.size + 2 ≤ wr.heap.size ∧ Below w.heap.size w wr)
  case atStart => exact ⟨q, rfl, Nat.le_refl _, by rw [Nat.sub_self]; exact hch, by rw [Nat.sub_self]; rfl, hv0, hv1, hz1, hB1⟩
  case round =>
    obtain ⟨p, rfl, hm, hc, hfr, hv0, hv1, hsz, hB⟩ := hrel
    have hFr := Lib.hid hfr
    clear hfr
    cases gk with
    | zero =>
      obtain rfl : p = none := hc
      go_wp2
      go_ret
      exact ⟨ret_bool (by have := hFr.out; rw [Nat.sub_zero] at this; exact this.symm), hB⟩
    | succ m =>
      obtain ⟨g, q', rfl, hg, hX, hc'⟩ := hc
      have ek : wn - m = (wn - (m + 1)) + 1 := by omega
      rw [← ek] at hc'
      have hlt : wn - (m + 1) < wn := by omega
      generalize wn - (m + 1) = k at *
      have hgl := (Array.getElem?_eq_some_iff.1 hX).1
      have c0 : wr.cell? ⟨g, 0, none⟩ = some (.int .i64 (wf k).lx) := by simp [World.cell?, hX]
      have c1 : wr.cell? ⟨g, 1, none⟩ = some (.int .i64 (wf k).ly) := by simp [World.cell?, hX]
      have c2 : wr.cell? ⟨g, 2, none⟩ = some (.int .i64 (wf k).hx) := by simp [World.cell?, hX]
      have c3 : wr.cell? ⟨g, 3, none⟩ = some (.int .i64 (wf k).hy) := by simp [World.cell?, hX]
      have c4 : wr.cell? ⟨g, 4, none⟩ = some (.pointer q') := by simp [World.cell?, hX]
      have hok := Lib.hid (bxsB_at hV.out k hlt)
      have hEk := Lib.hid ek
      clear hX ek
      go_wp2_with fail
      go_still_tail 5, (by kernel_rfl)
      go_wp2_with fail
      refine (iTouches (wf k).lx (wf k).ly (wf k).hx (wf k).hy x y 500 _ ((Bx.ok_eq _).symm.trans hok.out) hx1 hx2 hy1 hy2 (by omega) (by omega)).mono ?_
      rintro e w2 ⟨rfl, hb2⟩
      have hz2 : wr.heap.size ≤ w2.heap.size := hb2.size
      have c4' : w2.cell? ⟨g, 4, none⟩ = some (.pointer q') := (hb2.cell (p := ⟨g, 4, none⟩) hgl).trans c4
      cases ht : tcB (wf k).lx (wf k).ly (wf k).hx (wf k).hy x y 500 with
      | true =>
        go_wp2
        go_ret
        exact ⟨ret_bool (frB_no (Bx.far_t ht) _ hlt).symm, (Below.drew hB).trans (hb2.mono hB.size)⟩
      | false =>
        go_wp2
        go_roundg m
        case measure => omega
        case rel => exact ⟨q', rfl, by omega, ChainL.mono (W := wr) (W' := w2) (Nat.le_refl _) (fun g _ _ ho _ => (hb2.block g (Array.getElem?_eq_some_iff.1 ho).1).trans ho) hc', by rw [hEk.out]; exact frB_yes hFr.out (Bx.far_f ht), (hb2.cell (p := ⟨w.heap.size + 1, 0, none⟩) (by simp; omega)).trans hv0, (hb2.cell (p := ⟨w.heap.size + 1, 1, none⟩) (by simp; omega)).trans hv1, by omega, (Below.drew hB).trans (hb2.mono hB.size)⟩
end Go.Proofs.Ytgiadgbfeldheaa

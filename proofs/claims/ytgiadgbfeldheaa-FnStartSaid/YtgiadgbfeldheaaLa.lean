/- Levels: what they are, when they are valid; the reference's functions on them. -/
import Derived.Test.YtgiadgbfeldheaaW
import Derived.Test.YtgiadgbfeldheaaG
import Derived.Test.YtgiadgbfeldheaaH
import Derived.StillTailTactics
namespace Go.Proofs.Ytgiadgbfeldheaa
open Go.RowKit

/-- a level: its numbers, its walls and gates as slices, what these hold -/
structure Lv where
  id : Int
  ticks : Int
  sx : Int
  sy : Int
  wa : Option Addr
  wn : Nat
  wc : Nat
  ga : Option Addr
  gn : Nat
  gc : Nat
  flx : Int
  fly : Int
  fhx : Int
  fhy : Int
  bans : Int
  wf : Nat → Bx
  gf : Nat → Bx
/-- .. its walls and gates lie in memory -/
def LvAt (w : World) (l : Lv) : Prop := BoxesAt w l.wa l.wn l.wf ∧ BoxesAt w l.ga l.gn l.gf
theorem LvAt.keep {w w' : World} {l : Lv} (h : LvAt w l) (hb : Below w.heap.size w w') : LvAt w' l := ⟨h.1.keep hb, h.2.keep hb⟩

/-- a box is valid -/
def Bx.ok (b : Bx) : Bool := bxB b.lx b.ly b.hx b.hy
/-- a box is far from a point -/
def Bx.far (b : Bx) (x y : Int) : Bool := !tcB b.lx b.ly b.hx b.hy x y 500
/-- the first n boxes are valid -/
def bxsB (f : Nat → Bx) : Nat → Bool
  | 0 => true
  | n + 1 => bxsB f n && (f n).ok
/-- the first n boxes are far from a point -/
def frB (f : Nat → Bx) (x y : Int) : Nat → Bool
  | 0 => true
  | n + 1 => frB f x y n && (f n).far x y
theorem bxsB_no {f : Nat → Bx} {k : Nat} (h : (f k).ok = false) : ∀ n, k < n → bxsB f n = false
  | 0, hn => absurd hn (Nat.not_lt_zero _)
  | n + 1, hn => by
    by_cases e : k = n
    · subst e; rw [bxsB, h, Bool.and_false]
    · rw [bxsB, bxsB_no h n (by omega), Bool.false_and]
theorem bxsB_at {f : Nat → Bx} : ∀ {n : Nat}, bxsB f n = true → ∀ i, i < n → (f i).ok = true
  | 0, _, _, hi => absurd hi (Nat.not_lt_zero _)
  | n + 1, h, i, hi => by
    rw [bxsB, Bool.and_eq_true] at h
    by_cases e : i = n
    · subst e; exact h.2
    · exact bxsB_at h.1 i (by omega)
theorem frB_no {f : Nat → Bx} {x y : Int} {k : Nat} (h : (f k).far x y = false) : ∀ n, k < n → frB f x y n = false
  | 0, hn => absurd hn (Nat.not_lt_zero _)
  | n + 1, hn => by
    by_cases e : k = n
    · subst e; rw [frB, h, Bool.and_false]
    · rw [frB, frB_no h n (by omega), Bool.false_and]
theorem frB_at {f : Nat → Bx} {x y : Int} : ∀ {n : Nat}, frB f x y n = true → ∀ i, i < n → (f i).far x y = true
  | 0, _, _, hi => absurd hi (Nat.not_lt_zero _)
  | n + 1, h, i, hi => by
    rw [frB, Bool.and_eq_true] at h
    by_cases e : i = n
    · subst e; exact h.2
    · exact frB_at h.1 i (by omega)
theorem bxsB_yes {f : Nat → Bx} {k : Nat} (h : bxsB f k = true) (h2 : (f k).ok = true) : bxsB f (k + 1) = true := by rw [bxsB, h, h2]; rfl
theorem frB_yes {f : Nat → Bx} {x y : Int} {k : Nat} (h : frB f x y k = true) (h2 : (f k).far x y = true) : frB f x y (k + 1) = true := by rw [frB, h, h2]; rfl

/-- a level is valid -/
def Lv.ok (l : Lv) : Bool := inB l.id 0 99 && inB l.ticks 1 60 && vokB l.sx l.sy && decide (l.wn ≤ 4) && bxsB l.wf l.wn && decide (l.gn ≤ 3) && bxsB l.gf l.gn && bxB l.flx l.fly l.fhx l.fhy && inB l.bans 0 3 && frB l.wf l.sx l.sy l.wn
/-- a level forbids something -/
def Lv.ban (l : Lv) (n : Int) : Bool := l.bans / n % 2 == 1
theorem Bx.ok_eq (b : Bx) : b.ok = bxB b.lx b.ly b.hx b.hy := rfl
theorem Bx.far_t {b : Bx} {x y : Int} (h : tcB b.lx b.ly b.hx b.hy x y 500 = true) : b.far x y = false := by simp [Bx.far, h]
theorem Bx.far_f {b : Bx} {x y : Int} (h : tcB b.lx b.ly b.hx b.hy x y 500 = false) : b.far x y = true := by simp [Bx.far, h]
attribute [irreducible] Bx.ok Bx.far

set_option maxRecDepth 100000 in
set_option maxHeartbeats 1000000 in
theorem sFree (l : Lv) (x y : Int) (w : World) (hn : l.wn ≤ 1099511627776) (hl : BoxesAt w l.wa l.wn l.wf) (hv : bxsB l.wf l.wn = true) (hx1 : -3000000 ≤ x) (hx2 : x ≤ 3000000) (hy1 : -3000000 ≤ y) (hy2 : y ≤ 3000000) : Calls Try.prog 36 #[.agg #[.int .i64 l.id, .int .i64 l.ticks, .int .i64 l.sx, .int .i64 l.sy, .slice l.wa l.wn l.wc, .slice l.ga l.gn l.gc, .int .i64 l.flx, .int .i64 l.fly, .int .i64 l.fhx, .int .i64 l.fhy, .int .i64 l.bans], .agg #[.int .i64 x, .int .i64 y]] w fun e w' => e = .returned (.bool (frB l.wf x y l.wn)) ∧ Below w.heap.size w w' := by
  obtain ⟨lid, lticks, lsx, lsy, wa, wn, wc, ga, gn, gc, flx, fly, fhx, fhy, bans, wf, gf⟩ := l
  simp only at hn hl hv ⊢
  go_enter Try.func36, Try.ntmps36
  go_wp2
  go_loopw [5] (fun i wr => ∃ k : Nat, k ≤ wn ∧ i = .int .i64 k ∧ frB wf x y k = true ∧ wr.cell? ⟨w.heap.size, 4, none⟩ = some (.slice wa wn wc) ∧ wr.cell? ⟨w.heap.size + 1, 0, none⟩ = some (.int .i64 x) ∧ wr.cell? ⟨w.heap.size + 1, 1, none⟩ = some (.int .i64 y) ∧ w.heap.size + 2 ≤ wr.heap.size ∧ Below w.heap.size w wr) (fun i _ => wn - (intOf i).toNat)
  case atStart => exact ⟨0, Nat.zero_le _, rfl, rfl, by simp, by simp, by simp, by simp, by (repeat (first | with_reducible assumption | with_reducible exact Below.refl _ _ | ((with_reducible refine Below.alloc ?_ ?_ _); rotate_left; · exact (by first | omega | (simp; done) | (simp; omega))) | ((with_reducible refine Below.setCell ?_ ?_ _); rotate_left; · exact (by first | omega | (simp; done) | (simp; omega))) | with_reducible refine Below.drew ?_ | assumption | exact Below.refl _ _ | refine Below.alloc ?_ (by first | omega | (simp; done) | (simp; omega)) _ | refine Below.setCell ?_ (by first | omega | (simp; done) | (simp; omega)) _ | refine Below.drew ?_))⟩
  case round =>
    obtain ⟨k, hk, rfl, hfr, hc4, hv0, hv1, hsz, hB⟩ := hrel
    have hFr := Lib.hid hfr
    clear hfr
    by_cases hlt : k < wn
    · obtain ⟨b, off, rfl, hbl, hcs⟩ := hl.resolve_left (by omega)
      obtain ⟨g0, g1, g2, g3⟩ := hcs k hlt
      have e0 := (hB.cell (p := ⟨b, off + k * 4, none⟩) hbl).trans g0
      have e1 := (hB.cell (p := ⟨b, off + k * 4 + 1, none⟩) hbl).trans g1
      have e2 := (hB.cell (p := ⟨b, off + k * 4 + 2, none⟩) hbl).trans g2
      have e3 := (hB.cell (p := ⟨b, off + k * 4 + 3, none⟩) hbl).trans g3
      clear g0 g1 g2 g3
      have hok := Lib.hid (bxsB_at hv k hlt)
      have q1 : (0 : Int) ≤ (k : Int) := by omega
      have q2 : (k : Int) < (wn : Int) := by omega
      have hL := Lib.hid hl
      have hCs := Lib.hid hcs
      have hV := Lib.hid hv
      clear hcs hl hv
      go_wp2_with fail
      go_still_tail 6, (by kernel_rfl)
      go_wp2_with fail
      refine (sTouches (wf k).lx (wf k).ly (wf k).hx (wf k).hy x y 500 _ ((Bx.ok_eq _).symm.trans hok.out) hx1 hx2 hy1 hy2 (by omega) (by omega)).mono ?_
      rintro e w1 ⟨rfl, hb1⟩
      have hz1 : wr.heap.size ≤ w1.heap.size := hb1.size
      cases ht : tcB (wf k).lx (wf k).ly (wf k).hx (wf k).hy x y 500 with
      | true =>
        go_wp2
        go_ret
        exact ⟨ret_bool (frB_no (Bx.far_t ht) _ hlt).symm, (Below.drew hB).trans (hb1.mono hB.size)⟩
      | false =>
        go_wp2
        go_roundw
        case rel => exact ⟨k + 1, by omega, by go_num, frB_yes hFr.out (Bx.far_f ht), (hb1.cell (p := ⟨w.heap.size, 4, none⟩) (by simp; omega)).trans hc4, (hb1.cell (p := ⟨w.heap.size + 1, 0, none⟩) (by simp; omega)).trans hv0, (hb1.cell (p := ⟨w.heap.size + 1, 1, none⟩) (by simp; omega)).trans hv1, by omega, (Below.drew hB).trans (hb1.mono hB.size)⟩
        case measure => simp [intOf]; omega
    · obtain rfl : k = wn := by omega
      go_wp2
      go_ret
      exact ⟨ret_bool hFr.out.symm, hB⟩
end Go.Proofs.Ytgiadgbfeldheaa

/- Levels: what they are, when they are valid; the reference's functions on them. -/
import Derived.Test.YtnhjalijnociaaaQab
import Derived.Test.YtnhjalijnociaaaQac
import Derived.StillTailTactics
import Derived.Test.YtnhjalijnociaaaQaa
import Derived.Deep.QuietTactic
import Derived.BigQuiet
import Derived.Lib.Hide
/- Levels: what they are, when they are valid; the reference's functions on them. -/
namespace Go.Proofs.Ytnhjalijnociaaa
open Go.RowKit

/-- a level: its numbers, its walls and gates as slices, what these hold -/
structure Lv where
  id : Int
  ticks : Int
  sx : Int
  sy : Int
  wa : Option Addr
  wn : Nat
  wc : Nat
  ga : Option Addr
  gn : Nat
  gc : Nat
  flx : Int
  fly : Int
  fhx : Int
  fhy : Int
  bans : Int
  wf : Nat → Bx
  gf : Nat → Bx
/-- .. its walls and gates lie in memory -/
def LvAt (w : World) (l : Lv) : Prop := BoxesAt w l.wa l.wn l.wf ∧ BoxesAt w l.ga l.gn l.gf
theorem LvAt.keep {w w' : World} {l : Lv} (h : LvAt w l) (hb : Below w.heap.size w w') : LvAt w' l := ⟨h.1.keep hb, h.2.keep hb⟩

/-- a box is valid -/
def Bx.ok (b : Bx) : Bool := bxB b.lx b.ly b.hx b.hy
/-- a box is far from a point -/
def Bx.far (b : Bx) (x y : Int) : Bool := !tcB b.lx b.ly b.hx b.hy x y 500
/-- the first n boxes are valid -/
def bxsB (f : Nat → Bx) : Nat → Bool
  | 0 => true
  | n + 1 => bxsB f n && (f n).ok
/-- the first n boxes are far from a point -/
def frB (f : Nat → Bx) (x y : Int) : Nat → Bool
  | 0 => true
  | n + 1 => frB f x y n && (f n).far x y
theorem bxsB_no {f : Nat → Bx} {k : Nat} (h : (f k).ok = false) : ∀ n, k < n → bxsB f n = false
  | 0, hn => absurd hn (Nat.not_lt_zero _)
  | n + 1, hn => by
    by_cases e : k = n
    · subst e; rw [bxsB, h, Bool.and_false]
    · rw [bxsB, bxsB_no h n (by omega), Bool.false_and]
theorem bxsB_at {f : Nat → Bx} : ∀ {n : Nat}, bxsB f n = true → ∀ i, i < n → (f i).ok = true
  | 0, _, _, hi => absurd hi (Nat.not_lt_zero _)
  | n + 1, h, i, hi => by
    rw [bxsB, Bool.and_eq_true] at h
    by_cases e : i = n
    · subst e; exact h.2
    · exact bxsB_at h.1 i (by omega)
theorem frB_no {f : Nat → Bx} {x y : Int} {k : Nat} (h : (f k).far x y = false) : ∀ n, k < n → frB f x y n = false
  | 0, hn => absurd hn (Nat.not_lt_zero _)
  | n + 1, hn => by
    by_cases e : k = n
    · subst e; rw [frB, h, Bool.and_false]
    · rw [frB, frB_no h n (by omega), Bool.false_and]
theorem frB_at {f : Nat → Bx} {x y : Int} : ∀ {n : Nat}, frB f x y n = true → ∀ i, i < n → (f i).far x y = true
  | 0, _, _, hi => absurd hi (Nat.not_lt_zero _)
  | n + 1, h, i, hi => by
    rw [frB, Bool.and_eq_true] at h
    by_cases e : i = n
    · subst e; exact h.2
    · exact frB_at h.1 i (by omega)
theorem bxsB_yes {f : Nat → Bx} {k : Nat} (h : bxsB f k = true) (h2 : (f k).ok = true) : bxsB f (k + 1) = true := by rw [bxsB, h, h2]; rfl
theorem frB_yes {f : Nat → Bx} {x y : Int} {k : Nat} (h : frB f x y k = true) (h2 : (f k).far x y = true) : frB f x y (k + 1) = true := by rw [frB, h, h2]; rfl

/-- a level is valid -/
def Lv.ok (l : Lv) : Bool := inB l.id 0 99 && inB l.ticks 1 60 && vokB l.sx l.sy && decide (l.wn ≤ 4) && bxsB l.wf l.wn && decide (l.gn ≤ 3) && bxsB l.gf l.gn && bxB l.flx l.fly l.fhx l.fhy && inB l.bans 0 3 && frB l.wf l.sx l.sy l.wn
/-- a level forbids something -/
def Lv.ban (l : Lv) (n : Int) : Bool := l.bans / n % 2 == 1
theorem Bx.ok_eq (b : Bx) : b.ok = bxB b.lx b.ly b.hx b.hy := rfl
theorem Bx.far_t {b : Bx} {x y : Int} (h : tcB b.lx b.ly b.hx b.hy x y 500 = true) : b.far x y = false := by simp [Bx.far, h]
theorem Bx.far_f {b : Bx} {x y : Int} (h : tcB b.lx b.ly b.hx b.hy x y 500 = false) : b.far x y = true := by simp [Bx.far, h]
attribute [irreducible] Bx.ok Bx.far

set_option maxRecDepth 100000 in
set_option maxHeartbeats 1000000 in
theorem sFree (l : Lv) (x y : Int) (w : World) (hn : l.wn ≤ 1099511627776) (hl : BoxesAt w l.wa l.wn l.wf) (hv : bxsB l.wf l.wn = true) (hx1 : -3000000 ≤ x) (hx2 : x ≤ 3000000) (hy1 : -3000000 ≤ y) (hy2 : y ≤ 3000000) : Calls Try.prog 78 #[.agg #[.int .i64 l.id, .int .i64 l.ticks, .int .i64 l.sx, .int .i64 l.sy, .slice l.wa l.wn l.wc, .slice l.ga l.gn l.gc, .int .i64 l.flx, .int .i64 l.fly, .int .i64 l.fhx, .int .i64 l.fhy, .int .i64 l.bans], .agg #[.int .i64 x, .int .i64 y]] w fun e w' => e = .returned (.bool (frB l.wf x y l.wn)) ∧ Below w.heap.size w w' := by
  obtain ⟨lid, lticks, lsx, lsy, wa, wn, wc, ga, gn, gc, flx, fly, fhx, fhy, bans, wf, gf⟩ := l
  simp only at hn hl hv ⊢
  go_enter Try.func78, Try.ntmps78
  go_wp2
  go_loopw [5] (fun i wr => ∃ k : Nat, k ≤ wn ∧ i = .int .i64 k ∧ frB wf x y k = true ∧ wr.cell? ⟨w.heap.size, 4, none⟩ = some (.slice wa wn wc) ∧ wr.cell? ⟨w.heap.size + 1, 0, none⟩ = some (.int .i64 x) ∧ wr.cell? ⟨w.heap.size + 1, 1, none⟩ = some (.int .i64 y) ∧ w.heap.size + 2 ≤ wr.heap.size ∧ Below w.heap.size w wr) (fun i _ => wn - (intOf i).toNat)
  case atStart => exact ⟨0, Nat.zero_le _, rfl, rfl, by simp, by simp, by simp, by simp, by (repeat (first | with_reducible assumption | with_reducible exact Below.refl _ _ | ((with_reducible refine Below.alloc ?_ ?_ _); rotate_left; · exact (by first | omega | (simp; done) | (simp; omega))) | ((with_reducible refine Below.setCell ?_ ?_ _); rotate_left; · exact (by first | omega | (simp; done) | (simp; omega))) | with_reducible refine Below.drew ?_ | assumption | exact Below.refl _ _ | refine Below.alloc ?_ (by first | omega | (simp; done) | (simp; omega)) _ | refine Below.setCell ?_ (by first | omega | (simp; done) | (simp; omega)) _ | refine Below.drew ?_))⟩
  case round =>
    obtain ⟨k, hk, rfl, hfr, hc4, hv0, hv1, hsz, hB⟩ := hrel
    have hFr := Lib.hid hfr
    clear hfr
    by_cases hlt : k < wn
    · obtain ⟨b, off, rfl, hbl, hcs⟩ := hl.resolve_left (by omega)
      obtain ⟨g0, g1, g2, g3⟩ := hcs k hlt
      have e0 := (hB.cell (p := ⟨b, off + k * 4, none⟩) hbl).trans g0
      have e1 := (hB.cell (p := ⟨b, off + k * 4 + 1, none⟩) hbl).trans g1
      have e2 := (hB.cell (p := ⟨b, off + k * 4 + 2, none⟩) hbl).trans g2
      have e3 := (hB.cell (p := ⟨b, off + k * 4 + 3, none⟩) hbl).trans g3
      clear g0 g1 g2 g3
      have hok := Lib.hid (bxsB_at hv k hlt)
      have q1 : (0 : Int) ≤ (k : Int) := by omega
      have q2 : (k : Int) < (wn : Int) := by omega
      have hL := Lib.hid hl
      have hCs := Lib.hid hcs
      have hV := Lib.hid hv
      clear hcs hl hv
      go_wp2_with fail
      go_still_tail 6, (by kernel_rfl)
      go_wp2_with fail
      refine (sTouches (wf k).lx (wf k).ly (wf k).hx (wf k).hy x y 500 _ ((Bx.ok_eq _).symm.trans hok.out) hx1 hx2 hy1 hy2 (by omega) (by omega)).mono ?_
      rintro e w1 ⟨rfl, hb1⟩
      have hz1 : wr.heap.size ≤ w1.heap.size := hb1.size
      cases ht : tcB (wf k).lx (wf k).ly (wf k).hx (wf k).hy x y 500 with
      | true =>
        go_wp2
        go_ret
        exact ⟨ret_bool (frB_no (Bx.far_t ht) _ hlt).symm, (Below.drew hB).trans (hb1.mono hB.size)⟩
      | false =>
        go_wp2
        go_roundw
        case rel => exact ⟨k + 1, by omega, by go_num, frB_yes hFr.out (Bx.far_f ht), (hb1.cell (p := ⟨w.heap.size, 4, none⟩) (by simp; omega)).trans hc4, (hb1.cell (p := ⟨w.heap.size + 1, 0, none⟩) (by simp; omega)).trans hv0, (hb1.cell (p := ⟨w.heap.size + 1, 1, none⟩) (by simp; omega)).trans hv1, by omega, (Below.drew hB).trans (hb1.mono hB.size)⟩
        case measure => simp [intOf]; omega
    · obtain rfl : k = wn := by omega
      go_wp2
      go_ret
      exact ⟨ret_bool hFr.out.symm, hB⟩
end Go.Proofs.Ytnhjalijnociaaa

/- Contracts on boxes, of the program and of the reference: the nearest point, whether a circle touches, the common box, whether a point lies in a box. -/
namespace Go.Proofs.Ytnhjalijnociaaa
open Go.RowKit

/-- a box and a point are valid -/
def bvB (lx ly hx hy x y : Int) : Bool := bxB lx ly hx hy && vokB x y
/-- a box has a point -/
def hasB (lx ly hx hy x y : Int) : Bool := inB x lx hx && inB y ly hy
/-- a number if a condition holds, else 0 -/
def onB (b : Bool) (n : Int) : Int := if b then n else 0
theorem onB_t {b : Bool} {n : Int} (h : b = true) : onB b n = n := by simp [onB, h]
theorem onB_f {b : Bool} {n : Int} (h : b = false) : onB b n = 0 := by simp [onB, h]
theorem ret_vb {a b a' b' : Int} {k k' : Bool} (h1 : a = a') (h2 : b = b') (h3 : k = k') :
    Ending.returned (.tuple #[.agg #[.int .i64 a, .int .i64 b], .bool k]) = .returned (.tuple #[.agg #[.int .i64 a', .int .i64 b'], .bool k']) := by rw [h1, h2, h3]
theorem ret_bb {a b c d a' b' c' d' : Int} {k k' : Bool} (h1 : a = a') (h2 : b = b') (h3 : c = c') (h4 : d = d') (h5 : k = k') :
    Ending.returned (.tuple #[.agg #[.int .i64 a, .int .i64 b, .int .i64 c, .int .i64 d], .bool k]) = .returned (.tuple #[.agg #[.int .i64 a', .int .i64 b', .int .i64 c', .int .i64 d'], .bool k']) := by rw [h1, h2, h3, h4, h5]
theorem bxB_le {lx ly hx hy : Int} (h : bxB lx ly hx hy = true) : lx ≤ hx ∧ ly ≤ hy := by
  simp [bxB] at h
  omega

end Go.Proofs.Ytnhjalijnociaaa

/- A region that draws its order, that reads and calls what lays blocks alone: one walk serves every order. The class of worlds: whatever leaves the old blocks as they were. -/
namespace Go.Proofs.Ytnhjalijnociaaa
open Go.RowKit

/-- a world that leaves w's blocks as they were -/
structure BelW (w : World) where
  wo : World
  be : Below w.heap.size w wo
instance (w : World) : Nonempty (BelW w) := ⟨⟨w, Below.refl _ _⟩⟩
theorem BelW.cell {w : World} (p : BelW w) {b o : Nat} {v : Value} (h : w.cell? ⟨b, o, none⟩ = some v) (hb : b < w.heap.size) : p.wo.cell? ⟨b, o, none⟩ = some v := (p.be.cell (p := ⟨b, o, none⟩) hb).trans h
theorem BelW.cell_eq {w : World} (p : BelW w) (b o : Nat) (hb : b < w.heap.size) : p.wo.cell? ⟨b, o, none⟩ = w.cell? ⟨b, o, none⟩ := p.be.cell (p := ⟨b, o, none⟩) hb
theorem nl1 (n : Nat) : n < n + 1 := by omega
theorem nl2 (n : Nat) : n < n + 1 + 1 := by omega
theorem nl3 (n : Nat) : n < n + 1 + 1 + 1 := by omega
theorem nl4 (n : Nat) : n + 1 < n + 1 + 1 := by omega
theorem nl5 (n : Nat) : n + 1 < n + 1 + 1 + 1 := by omega
theorem nl6 (n : Nat) : n + 2 < n + 1 + 1 + 1 := by omega
theorem nl7 (n : Nat) : n < n + 2 := by omega
theorem nl8 (n : Nat) : n < n + 3 := by omega
theorem nl9 (n : Nat) : n + 1 < n + 2 := by omega
theorem nl10 (n : Nat) : n + 1 < n + 3 := by omega
theorem nl11 (n : Nat) : n + 2 < n + 3 := by omega
theorem region_bel {P : Program} {id : Nat} {Q : Exit → Act → World → Prop} {a : Act} {w : World} {l : List Oper} (hm : P.follows .mixedOrders = true) (hB : Region.lexB .any l.toArray = true)
    (h : wpQuiet P l.toArray (fun w' => ∃ p : BelW w, w' = p.wo) (fun a' => ∀ w', (∃ p : BelW w, w' = p.wo) → Q .normal a' w') l a) : (Code.region id l.toArray true).wp P Q a w :=
  wp_region_quiet (C := fun w' => ∃ p : BelW w, w' = p.wo) hm hB ⟨⟨w.drew, Below.drew (Below.refl _ _)⟩, rfl⟩ (by simpa using h)
theorem calls_bel {P : Program} {f : FuncId} {args : Array Value} {w : World} {p : BelW w} {v : Value}
    (h : Calls P f args p.wo fun e w' => e = .returned v ∧ Below p.wo.heap.size p.wo w') : Calls P f args p.wo fun e w'' => e = .returned v ∧ ∃ q : BelW w, w'' = q.wo :=
  h.mono fun _ w'' ⟨he, hb⟩ => ⟨he, ⟨w'', p.be.trans (hb.mono p.be.size)⟩, rfl⟩
theorem calls_bel0 {P : Program} {f : FuncId} {args : Array Value} {w : World} {p : BelW w} {v : Value}
    (h : Calls P f args p.wo fun e w' => e = .returned v ∧ p.wo = w') : Calls P f args p.wo fun e w'' => e = .returned v ∧ ∃ q : BelW w, w'' = q.wo :=
  h.mono fun _ _ ⟨he, hb⟩ => ⟨he, p, hb.symm⟩

/-- two vectors are equal, two boxes are -/
def vq (a b a' b' : Int) : Bool := (a == a') && (b == b')
def bq (a b c d a' b' c' d' : Int) : Bool := vq a b a' b' && vq c d c' d'
theorem vq_def (a b a' b' : Int) : vq a b a' b' = ((a == a') && (b == b')) := rfl
theorem vq_self (a b : Int) : vq a b a b = true := by simp [vq]
theorem bq_self (a b c d : Int) : bq a b c d a b c d = true := by simp [bq, vq]
theorem run_eqlVec (a b a' b' : Int) (w : World) : (binOp .eql 24 (.agg #[.int .i64 a, .int .i64 b]) (.agg #[.int .i64 a', .int .i64 b'])).run Try.prog w = .ok (.bool (vq a b a' b')) w := by
  by_cases h1 : a = a' <;> by_cases h2 : b = b' <;> simp [go_sem, vq, h1, h2]
theorem run_neqVec (a b a' b' : Int) (w : World) : (binOp .neq 24 (.agg #[.int .i64 a, .int .i64 b]) (.agg #[.int .i64 a', .int .i64 b'])).run Try.prog w = .ok (.bool (!vq a b a' b')) w := by
  by_cases h1 : a = a' <;> by_cases h2 : b = b' <;> simp [go_sem, vq, h1, h2]
theorem run_neqBox (a b c d a' b' c' d' : Int) (w : World) : (binOp .neq 27 (.agg #[.int .i64 a, .int .i64 b, .int .i64 c, .int .i64 d]) (.agg #[.int .i64 a', .int .i64 b', .int .i64 c', .int .i64 d'])).run Try.prog w = .ok (.bool (!bq a b c d a' b' c' d')) w := by
  by_cases h1 : a = a' <;> by_cases h2 : b = b' <;> by_cases h3 : c = c' <;> by_cases h4 : d = d' <;> simp [go_sem, vq, bq, h1, h2, h3, h4]
attribute [irreducible] vq bq
end Go.Proofs.Ytnhjalijnociaaa

/- Contracts on boxes, of the program and of the reference: the common box, whether a point lies in a box. -/
namespace Go.Proofs.Ytnhjalijnociaaa
open Go.RowKit
attribute [local go_sem] BelW.cell_eq nl1 nl2 nl3 nl4 nl5 nl6 nl7 nl8 nl9 nl10 nl11
attribute [local go_sem ↓] run_eqlVec run_neqVec vq_self bq_self

/-- the larger and the smaller of two numbers -/
def mx (x y : Int) : Int := if y > x then y else x
def mn (x y : Int) : Int := if y < x then y else x
theorem mx_eq (x y : Int) : (x ≤ y ∧ mx x y = y) ∨ (y ≤ x ∧ mx x y = x) := by
  unfold mx
  split <;> omega
theorem mn_eq (x y : Int) : (x ≤ y ∧ mn x y = x) ∨ (y ≤ x ∧ mn x y = y) := by
  unfold mn
  split <;> omega
theorem run_mx (ts : Array TypeId) (t : TypeId) (k k' : IntKind) (x y : Int) (P : Program) (w : World) : (Builtin.max_ ts t #[.int k x, .int k' y]).run P w = .ok (.int k (mx x y)) w := run_max_int2 w ts t k k' x y
theorem run_mn (ts : Array TypeId) (t : TypeId) (k k' : IntKind) (x y : Int) (P : Program) (w : World) : (Builtin.min_ ts t #[.int k x, .int k' y]).run P w = .ok (.int k (mn x y)) w := run_min_int2 w ts t k k' x y
attribute [irreducible] mx mn
attribute [local go_sem ↓] run_mx run_mn

/-- two boxes have a common part -/
def meB (a b c d a' b' c' d' : Int) : Bool := bxB a b c d && bxB a' b' c' d' && bxB (mx a a') (mx b b') (mn c c') (mn d d')
theorem has_cl {lx ly hx hy x y : Int} (_ : lx ≤ hx) (_ : ly ≤ hy) : ((cl x lx hx == x) && (cl y ly hy == y)) = hasB lx ly hx hy x y := by
  rw [Bool.eq_iff_iff]
  simp only [hasB, inB, Bool.and_eq_true, beq_iff_eq, decide_eq_true_eq]
  unfold cl
  split
  · omega
  · split
    · split
      · omega
      · split <;> omega
    · split
      · omega
      · split <;> omega
set_option maxHeartbeats 1000000 in
theorem iHas (lx ly hx hy x y : Int) (w : World) (h1 : lx ≤ hx) (h2 : ly ≤ hy) : Calls Try.prog 66 #[.agg #[.int .i64 lx, .int .i64 ly, .int .i64 hx, .int .i64 hy], .agg #[.int .i64 x, .int .i64 y]] w fun e w' => e = .returned (.bool (hasB lx ly hx hy x y)) ∧ Below w.heap.size w w' := by
  have hh := Lib.hid (has_cl (x := x) (y := y) h1 h2)
  go_enter Try.func66, Try.ntmps66
  go_wp2_with fail
  refine region_bel (by kernel_rfl) (by kernel_rfl) ?_; (repeat (first | go_big_quiet_step ((go_at_call 109; exact calls_bel (iNearest _ _ _ _ _ _ _ h1 h2))) | quiet_step ((go_at_call 109; exact calls_bel (iNearest _ _ _ _ _ _ _ h1 h2))))); refine wpQuiet_nil ?_; intro w1 hwq; obtain ⟨⟨wq, hb1⟩, hwq⟩ := hwq; dsimp only at hwq; subst hwq; obtain ⟨hc1, hf1⟩ := bcell hb1; have hz1 : w.heap.size < w1.heap.size := (by have := hb1.size; first | omega | (simp at this; omega)); have hy1 : w.heap.size < w1.heap.size + 1 := Nat.lt_succ_of_lt hz1; have hB1 : Below w.heap.size w w1 := bstep (by (repeat (first | with_reducible assumption | with_reducible exact Below.refl _ _ | ((with_reducible refine Below.alloc ?_ ?_ _); rotate_left; · exact (by first | omega | (simp; done) | (simp; omega))) | ((with_reducible refine Below.setCell ?_ ?_ _); rotate_left; · exact (by first | omega | (simp; done) | (simp; omega))) | with_reducible refine Below.drew ?_ | assumption | exact Below.refl _ _ | refine Below.alloc ?_ (by first | omega | (simp; done) | (simp; omega)) _ | refine Below.setCell ?_ (by first | omega | (simp; done) | (simp; omega)) _ | refine Below.drew ?_))) (by first | omega | (simp; done) | (simp; omega)) hb1
  go_wp2
  go_ret
  exact ⟨ret_bool (by rw [← hh.out, vq_def]), hB1⟩
set_option maxHeartbeats 1000000 in
theorem iBoxHas (lx ly hx hy x y : Int) (w : World) : Calls Try.prog 27 #[.agg #[.int .i64 lx, .int .i64 ly, .int .i64 hx, .int .i64 hy], .agg #[.int .i64 x, .int .i64 y]] w fun e w' => e = .returned (.bool (bvB lx ly hx hy x y && hasB lx ly hx hy x y)) ∧ Below w.heap.size w w' := by
  go_enter Try.func27, Try.ntmps27
  go_wp2_with fail; refine (iBoxValid _ _ _ _ _).mono ?_; rintro e w1 ⟨rfl, hb1⟩; obtain ⟨hc1, hf1⟩ := bcell hb1; have hz1 : w.heap.size < w1.heap.size := (by have := hb1.size; first | omega | (simp at this; omega)); have hy1 : w.heap.size < w1.heap.size + 1 := Nat.lt_succ_of_lt hz1; have hB1 : Below w.heap.size w w1 := bstep (by (repeat (first | with_reducible assumption | with_reducible exact Below.refl _ _ | ((with_reducible refine Below.alloc ?_ ?_ _); rotate_left; · exact (by first | omega | (simp; done) | (simp; omega))) | ((with_reducible refine Below.setCell ?_ ?_ _); rotate_left; · exact (by first | omega | (simp; done) | (simp; omega))) | with_reducible refine Below.drew ?_ | assumption | exact Below.refl _ _ | refine Below.alloc ?_ (by first | omega | (simp; done) | (simp; omega)) _ | refine Below.setCell ?_ (by first | omega | (simp; done) | (simp; omega)) _ | refine Below.drew ?_))) (by first | omega | (simp; done) | (simp; omega)) hb1
  try (have hz1b : w.heap.size + 1 < w1.heap.size := (by have := hb1.size; first | omega | (simp at this; omega))); try (have hne1b : w1.heap.size ≠ w.heap.size + 1 := by omega)
  cases h1 : bxB lx ly hx hy with
  | false =>
    go_wp2
    go_ret
    exact ⟨ret_bool (by simp [bvB, h1]), by (repeat (first | with_reducible assumption | with_reducible exact Below.refl _ _ | ((with_reducible refine Below.alloc ?_ ?_ _); rotate_left; · exact (by first | omega | (simp; done) | (simp; omega))) | ((with_reducible refine Below.setCell ?_ ?_ _); rotate_left; · exact (by first | omega | (simp; done) | (simp; omega))) | with_reducible refine Below.drew ?_ | assumption | exact Below.refl _ _ | refine Below.alloc ?_ (by first | omega | (simp; done) | (simp; omega)) _ | refine Below.setCell ?_ (by first | omega | (simp; done) | (simp; omega)) _ | refine Below.drew ?_))⟩
  | true =>
    go_wp2_with fail; refine (iVecOk _ _ _).mono ?_; rintro e w2 ⟨rfl, hb2⟩; obtain ⟨hc2, hf2⟩ := bcell hb2; have hz2 : w.heap.size < w2.heap.size := (by have := hb2.size; first | omega | (simp at this; omega)); have hy2 : w.heap.size < w2.heap.size + 1 := Nat.lt_succ_of_lt hz2; have hB2 : Below w.heap.size w w2 := bstep (by (repeat (first | with_reducible assumption | with_reducible exact Below.refl _ _ | ((with_reducible refine Below.alloc ?_ ?_ _); rotate_left; · exact (by first | omega | (simp; done) | (simp; omega))) | ((with_reducible refine Below.setCell ?_ ?_ _); rotate_left; · exact (by first | omega | (simp; done) | (simp; omega))) | with_reducible refine Below.drew ?_ | assumption | exact Below.refl _ _ | refine Below.alloc ?_ (by first | omega | (simp; done) | (simp; omega)) _ | refine Below.setCell ?_ (by first | omega | (simp; done) | (simp; omega)) _ | refine Below.drew ?_))) (by first | omega | (simp; done) | (simp; omega)) hb2
    try (have hz2b : w.heap.size + 1 < w2.heap.size := (by have := hb2.size; first | omega | (simp at this; omega))); try (have hne2b : w2.heap.size ≠ w.heap.size + 1 := by omega)
    cases h2 : vokB x y with
    | false =>
      go_wp2
      go_ret
      exact ⟨ret_bool (by simp [bvB, h1, h2]), by (repeat (first | with_reducible assumption | with_reducible exact Below.refl _ _ | ((with_reducible refine Below.alloc ?_ ?_ _); rotate_left; · exact (by first | omega | (simp; done) | (simp; omega))) | ((with_reducible refine Below.setCell ?_ ?_ _); rotate_left; · exact (by first | omega | (simp; done) | (simp; omega))) | with_reducible refine Below.drew ?_ | assumption | exact Below.refl _ _ | refine Below.alloc ?_ (by first | omega | (simp; done) | (simp; omega)) _ | refine Below.setCell ?_ (by first | omega | (simp; done) | (simp; omega)) _ | refine Below.drew ?_))⟩
    | true =>
      have hle := bxB_le h1
      go_wp2_with fail; refine (iHas _ _ _ _ _ _ _ hle.1 hle.2).mono ?_; rintro e w3 ⟨rfl, hb3⟩; obtain ⟨hc3, hf3⟩ := bcell hb3; have hz3 : w.heap.size < w3.heap.size := (by have := hb3.size; first | omega | (simp at this; omega)); have hy3 : w.heap.size < w3.heap.size + 1 := Nat.lt_succ_of_lt hz3; have hB3 : Below w.heap.size w w3 := bstep (by (repeat (first | with_reducible assumption | with_reducible exact Below.refl _ _ | ((with_reducible refine Below.alloc ?_ ?_ _); rotate_left; · exact (by first | omega | (simp; done) | (simp; omega))) | ((with_reducible refine Below.setCell ?_ ?_ _); rotate_left; · exact (by first | omega | (simp; done) | (simp; omega))) | with_reducible refine Below.drew ?_ | assumption | exact Below.refl _ _ | refine Below.alloc ?_ (by first | omega | (simp; done) | (simp; omega)) _ | refine Below.setCell ?_ (by first | omega | (simp; done) | (simp; omega)) _ | refine Below.drew ?_))) (by first | omega | (simp; done) | (simp; omega)) hb3
      go_wp2
      go_ret
      exact ⟨ret_bool (by simp [bvB, h1, h2]), by (repeat (first | with_reducible assumption | with_reducible exact Below.refl _ _ | ((with_reducible refine Below.alloc ?_ ?_ _); rotate_left; · exact (by first | omega | (simp; done) | (simp; omega))) | ((with_reducible refine Below.setCell ?_ ?_ _); rotate_left; · exact (by first | omega | (simp; done) | (simp; omega))) | with_reducible refine Below.drew ?_ | assumption | exact Below.refl _ _ | refine Below.alloc ?_ (by first | omega | (simp; done) | (simp; omega)) _ | refine Below.setCell ?_ (by first | omega | (simp; done) | (simp; omega)) _ | refine Below.drew ?_))⟩
set_option maxHeartbeats 1000000 in
theorem sHas (lx ly hx hy x y : Int) (w : World) : Calls Try.prog 127 #[.agg #[.int .i64 lx, .int .i64 ly, .int .i64 hx, .int .i64 hy], .agg #[.int .i64 x, .int .i64 y]] w fun e w' => e = .returned (.bool (hasB lx ly hx hy x y)) ∧ Below w.heap.size w w' := by
  go_enter Try.func127, Try.ntmps127
  go_wp2_with (go_at_call 79; refine (sIn _ _ _ _).mono ?_; rintro e w' ⟨rfl, rfl⟩)
  all_goals go_ret
  all_goals exact ⟨ret_bool (by simp_all [hasB]), by (repeat (first | with_reducible assumption | with_reducible exact Below.refl _ _ | ((with_reducible refine Below.alloc ?_ ?_ _); rotate_left; · exact (by first | omega | (simp; done) | (simp; omega))) | ((with_reducible refine Below.setCell ?_ ?_ _); rotate_left; · exact (by first | omega | (simp; done) | (simp; omega))) | with_reducible refine Below.drew ?_ | assumption | exact Below.refl _ _ | refine Below.alloc ?_ (by first | omega | (simp; done) | (simp; omega)) _ | refine Below.setCell ?_ (by first | omega | (simp; done) | (simp; omega)) _ | refine Below.drew ?_))⟩
end Go.Proofs.Ytnhjalijnociaaa

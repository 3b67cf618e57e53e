/- Which inputs follow: the functions of both sides, the walk of FnExactInputFollows. -/
import Derived.Test.YtnhjalijnociaaaQak
import Derived.Test.YtnhjalijnociaaaQal
import Derived.Test.YtnhjalijnociaaaQaj
/- Which inputs follow: the functions of both sides, the walk of FnExactInputFollows. -/
set_option linter.unusedVariables false
set_option linter.unusedSimpArgs false
namespace Go.Proofs.Ytnhjalijnociaaa
open Go.RowKit

theorem folV_eq (l : Lv) (t tp : Int) (tb : Bool) (s p : Int) (b : Bool) : l.folV ⟨t, tp, tb⟩ ⟨s, p, b⟩ = (l.ok && inpV t tp tb && l.fol t ⟨s, p, b⟩) := rfl
theorem Lv.ok_num2 {l : Lv} (h : l.ok = true) : (0 ≤ l.id ∧ l.id ≤ 99) ∧ (1 ≤ l.ticks ∧ l.ticks ≤ 60) ∧ (0 ≤ l.bans ∧ l.bans ≤ 3) ∧ bxB l.flx l.fly l.fhx l.fhy = true := by
  simp only [Lv.ok, Bool.and_eq_true] at h
  obtain ⟨⟨⟨⟨⟨⟨⟨⟨⟨h1, h2⟩, h3⟩, _⟩, _⟩, _⟩, _⟩, h8⟩, h9⟩, _⟩ := h
  exact ⟨inB_true h1, inB_true h2, inB_true h9, h8⟩
set_option maxRecDepth 100000 in
set_option maxHeartbeats 2000000 in
theorem iInputFollows (l : Lv) (t tp : Int) (tb : Bool) (s p : Int) (b : Bool) (w : World) (hl : LvAt w l) : Calls Try.prog 53 #[.agg #[.int .i64 l.id, .int .i64 l.ticks, .int .i64 l.sx, .int .i64 l.sy, .slice l.wa l.wn l.wc, .slice l.ga l.gn l.gc, .int .i64 l.flx, .int .i64 l.fly, .int .i64 l.fhx, .int .i64 l.fhy, .int .i64 l.bans], .agg #[.int .i64 t, .int .i64 tp, .bool tb], .agg #[.int .i64 s, .int .i64 p, .bool b]] w fun e w' => e = .returned (.bool (l.folV ⟨t, tp, tb⟩ ⟨s, p, b⟩)) ∧ Below w.heap.size w w' := by
  go_enter Try.func53, Try.ntmps53
  go_wp2_with fail
  refine (iLevelValid l _  (hl.keep (by (repeat (first | with_reducible assumption | with_reducible exact Below.refl _ _ | ((with_reducible refine Below.alloc ?_ ?_ _); rotate_left; · exact (by first | omega | (simp; done) | (simp; omega))) | ((with_reducible refine Below.setCell ?_ ?_ _); rotate_left; · exact (by first | omega | (simp; done) | (simp; omega))) | with_reducible refine Below.drew ?_ | assumption | exact Below.refl _ _ | refine Below.alloc ?_ (by first | omega | (simp; done) | (simp; omega)) _ | refine Below.setCell ?_ (by first | omega | (simp; done) | (simp; omega)) _ | refine Below.drew ?_))))).mono ?_
  rintro e w1 ⟨rfl, hb1⟩
  have L1 : Blk w1 w.heap.size #[.int .i64 l.id, .int .i64 l.ticks, .int .i64 l.sx, .int .i64 l.sy, .slice l.wa l.wn l.wc, .slice l.ga l.gn l.gc, .int .i64 l.flx, .int .i64 l.fly, .int .i64 l.fhx, .int .i64 l.fhy, .int .i64 l.bans] := (((Blk.at rfl).alloc _).alloc _).below hb1 (by simp; omega)
  have Y1 : Blk w1 (w.heap.size + 1) #[.int .i64 t, .int .i64 tp, .bool tb] := ((Blk.at (by simp)).alloc _).below hb1 (by simp)
  have X1 : Blk w1 (w.heap.size + 1 + 1) #[.int .i64 s, .int .i64 p, .bool b] := (Blk.at (by simp)).below hb1 (by simp)
  have hB1 : Below w.heap.size w w1 := bstep (by (repeat (first | with_reducible assumption | with_reducible exact Below.refl _ _ | ((with_reducible refine Below.alloc ?_ ?_ _); rotate_left; · exact (by first | omega | (simp; done) | (simp; omega))) | ((with_reducible refine Below.setCell ?_ ?_ _); rotate_left; · exact (by first | omega | (simp; done) | (simp; omega))) | with_reducible refine Below.drew ?_ | assumption | exact Below.refl _ _ | refine Below.alloc ?_ (by first | omega | (simp; done) | (simp; omega)) _ | refine Below.setCell ?_ (by first | omega | (simp; done) | (simp; omega)) _ | refine Below.drew ?_))) (by first | omega | (simp; done) | (simp; omega)) hb1
  clear hb1
  have y0 := Y1.cell 0
  have y1 := Y1.cell 1
  have y2 := Y1.cell 2
  simp only [List.getElem?_toArray, List.getElem?_cons_zero, List.getElem?_cons_succ] at y0 y1 y2
  cases hk : l.ok with
  | false =>
    go_wp2
    go_ret
    exact ⟨ret_bool (by simp [folV_eq, hk]), hB1⟩
  | true =>
    obtain ⟨_, _, ⟨n0, n3⟩, _⟩ := Lv.ok_num2 hk
    have hK := Lib.hid hk
    clear hk
    go_wp2_with fail
    refine (iInpV t tp tb _).mono ?_
    rintro e w2 ⟨rfl, hb2⟩
    have L2 := L1.below hb2 L1.lt
    have Y2 := Y1.below hb2 Y1.lt
    have X2 := X1.below hb2 X1.lt
    have hB2 : Below w.heap.size w w2 := bstep hB1 hB1.size hb2
    clear y0 y1 y2 hb2
    (try clear q0 q1 q2 q3 q4 q5 q6 q7 q8 q9 q10); obtain ⟨q0, q1, q2, q3, q4, q5, q6, q7, q8, q9, q10⟩ := L2.c11
    have y0 := Y2.cell 0
    have y1 := Y2.cell 1
    have y2 := Y2.cell 2
    have c0 := X2.cell 0
    have c1 := X2.cell 1
    have c2 := X2.cell 2
    simp only [List.getElem?_toArray, List.getElem?_cons_zero, List.getElem?_cons_succ] at y0 y1 y2 c0 c1 c2
    cases hv : inpV t tp tb with
    | false =>
      go_wp2
      go_ret
      exact ⟨ret_bool (by simp [folV_eq, hv]), hB2⟩
    | true =>
      obtain ⟨v1, v2, v3, v4, v5⟩ := inpV_bd hv
      have hI := Lib.hid (show l.folV ⟨t, tp, tb⟩ ⟨s, p, b⟩ = l.fol t ⟨s, p, b⟩ by rw [folV_eq, hK.out, hv]; rfl)
      clear v3 v4 v5 hv
      go_wp2_with fail
      refine (iFollows l t s p b _ n0 n3 v1 v2).mono ?_
      rintro e w3 ⟨rfl, hb3⟩
      have hB3 : Below w.heap.size w w3 := bstep hB2 hB2.size hb3
      go_wp2
      go_ret
      exact ⟨ret_bool hI.out.symm, hB3⟩
/-- the law's three arguments in memory -/
structure XI (w0 : World) (l : Lv) (t tp : Int) (tb : Bool) (s p : Int) (b : Bool) (w : World) : Prop where
  L : Blk w w0.heap.size #[.int .i64 l.id, .int .i64 l.ticks, .int .i64 l.sx, .int .i64 l.sy, .slice l.wa l.wn l.wc, .slice l.ga l.gn l.gc, .int .i64 l.flx, .int .i64 l.fly, .int .i64 l.fhx, .int .i64 l.fhy, .int .i64 l.bans]
  Y : Blk w (w0.heap.size + 1) #[.int .i64 t, .int .i64 tp, .bool tb]
  X : Blk w (w0.heap.size + 1 + 1) #[.int .i64 s, .int .i64 p, .bool b]
  bel : Below w0.heap.size w0 w
  lv : LvAt w l
section
variable {w0 w w' : World} {l : Lv} {t tp : Int} {tb : Bool} {s p : Int} {b : Bool}
theorem XI.pass (h : XI w0 l t tp tb s p b w) (hb : Below w.heap.size w w') : XI w0 l t tp tb s p b w' := ⟨h.L.below hb h.L.lt, h.Y.below hb h.Y.lt, h.X.below hb h.X.lt, h.bel.trans (hb.mono h.bel.size), h.lv.keep hb⟩
theorem XI.alloc (h : XI w0 l t tp tb s p b w) (o : Obj) : XI w0 l t tp tb s p b (w.alloc o) := h.pass ((Below.refl _ _).alloc (Nat.le_refl _) o)
theorem XI.drew (h : XI w0 l t tp tb s p b w) : XI w0 l t tp tb s p b w.drew := ⟨h.L, h.Y, h.X, h.bel.drew, h.lv⟩
theorem XI.cells {W : World} (h : XI w0 l t tp tb s p b W) : (W.cell? ⟨w0.heap.size, 0, none⟩ = some (.int .i64 l.id) ∧ W.cell? ⟨w0.heap.size, 1, none⟩ = some (.int .i64 l.ticks) ∧ W.cell? ⟨w0.heap.size, 2, none⟩ = some (.int .i64 l.sx) ∧ W.cell? ⟨w0.heap.size, 3, none⟩ = some (.int .i64 l.sy) ∧ W.cell? ⟨w0.heap.size, 4, none⟩ = some (.slice l.wa l.wn l.wc) ∧ W.cell? ⟨w0.heap.size, 5, none⟩ = some (.slice l.ga l.gn l.gc) ∧ W.cell? ⟨w0.heap.size, 6, none⟩ = some (.int .i64 l.flx) ∧ W.cell? ⟨w0.heap.size, 7, none⟩ = some (.int .i64 l.fly) ∧ W.cell? ⟨w0.heap.size, 8, none⟩ = some (.int .i64 l.fhx) ∧ W.cell? ⟨w0.heap.size, 9, none⟩ = some (.int .i64 l.fhy) ∧ W.cell? ⟨w0.heap.size, 10, none⟩ = some (.int .i64 l.bans)) ∧ (W.cell? ⟨w0.heap.size + 1, 0, none⟩ = some (.int .i64 t) ∧ W.cell? ⟨w0.heap.size + 1, 1, none⟩ = some (.int .i64 tp) ∧ W.cell? ⟨w0.heap.size + 1, 2, none⟩ = some (.bool tb)) ∧ (W.cell? ⟨w0.heap.size + 1 + 1, 0, none⟩ = some (.int .i64 s) ∧ W.cell? ⟨w0.heap.size + 1 + 1, 1, none⟩ = some (.int .i64 p) ∧ W.cell? ⟨w0.heap.size + 1 + 1, 2, none⟩ = some (.bool b)) := ⟨h.L.c11, ⟨h.Y.cell 0, h.Y.cell 1, h.Y.cell 2⟩, ⟨h.X.cell 0, h.X.cell 1, h.X.cell 2⟩⟩
end
end Go.Proofs.Ytnhjalijnociaaa

/- Lists of inputs: what they are, the copies and comparisons that the exact laws make. -/
set_option linter.unusedVariables false
namespace Go.Proofs.Ytnhjalijnociaaa
open Go.ChangeShapes Go.WideShapes Go.ChangeAt Go.RowKit
attribute [local go_sem] BelW.cell_eq nl1 nl2 nl3 nl4 nl5 nl6 nl7 nl8 nl9 nl10 nl11

def InCells (w : World) (b o : Nat) (x : Inp) : Prop := w.cell? ⟨b, o, none⟩ = some (.int .i64 x.s) ∧ w.cell? ⟨b, o + 1, none⟩ = some (.int .i64 x.p) ∧ w.cell? ⟨b, o + 2, none⟩ = some (.bool x.b)
/-- a slice of n inputs -/
def InsAt (w : World) (a : Option Addr) (n : Nat) (f : Nat → Inp) : Prop := n = 0 ∨ ∃ b off, a = some ⟨b, off, none⟩ ∧ b < w.heap.size ∧ ∀ i, i < n → InCells w b (off + i * 3) (f i)
theorem InsAt.keep {w w' : World} {a : Option Addr} {n : Nat} {f : Nat → Inp} (h : InsAt w a n f) (hb : Below w.heap.size w w') : InsAt w' a n f := by
  rcases h with h | ⟨b, off, ha, hlt, hc⟩
  · exact .inl h
  · refine .inr ⟨b, off, ha, Nat.lt_of_lt_of_le hlt hb.size, fun i hi => ?_⟩
    obtain ⟨h0, h1, h2⟩ := hc i hi
    exact ⟨(hb.cell (p := ⟨b, off + i * 3, none⟩) hlt).trans h0, (hb.cell (p := ⟨b, off + i * 3 + 1, none⟩) hlt).trans h1, (hb.cell (p := ⟨b, off + i * 3 + 2, none⟩) hlt).trans h2⟩
theorem InsAt.less {w : World} {a : Option Addr} {n m : Nat} {f : Nat → Inp} (h : InsAt w a n f) (hm : m ≤ n) : InsAt w a m f := by
  rcases h with h | ⟨b, off, ha, hlt, hc⟩
  · exact .inl (by omega)
  · exact .inr ⟨b, off, ha, hlt, fun i hi => hc i (by omega)⟩
theorem infoIn : (Try.prog.info? 33).map (fun i => (i.zero, i.size, i.bytes)) = some (some (.agg #[.int .i64 0, .int .i64 0, .bool false]), 3, 24) := by kernel_rfl
def Inp.cells (x : Inp) : List Value := [.int .i64 x.s, .int .i64 x.p, .bool x.b]
def jvals (f : Nat → Inp) : Nat → List Value
  | 0 => []
  | n + 1 => jvals f n ++ (f n).cells
theorem jvals_len (f : Nat → Inp) : ∀ n, (jvals f n).length = n * 3
  | 0 => rfl
  | n + 1 => by rw [jvals, List.length_append, jvals_len f n]; simp [Inp.cells]; omega
theorem jvals_at (f : Nat → Inp) : ∀ {n i : Nat}, i < n → ∀ {j : Nat}, j < 3 → (jvals f n)[i * 3 + j]? = (f i).cells[j]?
  | 0, _, h, _, _ => absurd h (Nat.not_lt_zero _)
  | n + 1, i, h, j, hj => by
    rw [jvals]
    by_cases e : i = n
    · subst e
      rw [List.getElem?_append_right (by rw [jvals_len]; omega), jvals_len]
      congr 1
      omega
    · rw [List.getElem?_append_left (by rw [jvals_len]; omega)]
      exact jvals_at f (by omega) hj
theorem ins_own {w : World} {base g n cap : Nat} {f : Nat → Inp} (h : w.ownsRow base 33 3 (.slice (some ⟨g, 0, none⟩) n cap) n (jvals f n)) : InsAt w (some ⟨g, 0, none⟩) n f := by
  refine .inr ⟨g, 0, rfl, ?_, fun i hi => ?_⟩
  · rcases h.2 with ⟨h', _⟩ | ⟨g', cap', cur, h', _, hg, _⟩
    · simp at h'
    · simp only [Value.slice.injEq, Option.some.injEq, Addr.mk.injEq, and_true] at h'
      obtain ⟨rfl, _⟩ := h'
      exact (Array.getElem?_eq_some_iff.1 hg).1
  · rw [Nat.zero_add]
    have h0 := h.cellAt (i * 3) (by omega)
    have h1 := h.cellAt (i * 3 + 1) (by omega)
    have h2 := h.cellAt (i * 3 + 2) (by omega)
    have b0 := jvals_at f hi (j := 0) (by omega)
    rw [Nat.add_zero] at b0
    rw [b0] at h0
    rw [jvals_at f hi (by omega)] at h1 h2
    exact ⟨h0, h1, h2⟩
theorem set3_at {xs : List Value} {f : Nat → Inp} {k : Nat} (h : ∀ i, i < k → ∀ j, j < 3 → xs[i * 3 + j]? = (f i).cells[j]?) (hl : k * 3 + 2 < xs.length) :
    ∀ i, i < k + 1 → ∀ j, j < 3 → (((xs.set (k * 3) (.int .i64 (f k).s)).set (k * 3 + 1) (.int .i64 (f k).p)).set (k * 3 + 2) (.bool (f k).b))[i * 3 + j]? = (f i).cells[j]? := by
  intro i hi j hj
  by_cases e : i = k
  · subst e
    have hm : j = 0 ∨ j = 1 ∨ j = 2 := by omega
    rcases hm with rfl | rfl | rfl
    · rw [List.getElem?_set_ne (by omega), List.getElem?_set_ne (by omega), Nat.add_zero, List.getElem?_set_self (by omega)]; rfl
    · rw [List.getElem?_set_ne (by omega), List.getElem?_set_self (by simp; omega)]; rfl
    · rw [List.getElem?_set_self (by simp; omega)]; rfl
  · rw [List.getElem?_set_ne (by omega), List.getElem?_set_ne (by omega), List.getElem?_set_ne (by omega)]
    exact h i (by omega) j hj
theorem jvals_of {xs : List Value} {f : Nat → Inp} {n : Nat} (hl : xs.length = n * 3) (h : ∀ i, i < n → ∀ j, j < 3 → xs[i * 3 + j]? = (f i).cells[j]?) : xs = jvals f n := by
  apply List.ext_getElem?
  intro m
  by_cases hm : m < n * 3
  · have e : m = m / 3 * 3 + m % 3 := by omega
    rw [e, h (m / 3) (by omega) (m % 3) (by omega), jvals_at f (by omega) (by omega)]
  · rw [List.getElem?_eq_none (by omega), List.getElem?_eq_none (by rw [jvals_len]; omega)]
theorem own3 {w : World} {base g n cap k : Nat} {xs : List Value} (h : w.ownsRow base 33 3 (.slice (some ⟨g, 0, none⟩) n cap) n xs) (a b c : Value) :
    (((w.setCell ⟨g, k * 3, none⟩ a).setCell ⟨g, k * 3 + 1, none⟩ b).setCell ⟨g, k * 3 + 2, none⟩ c).ownsRow base 33 3 (.slice (some ⟨g, 0, none⟩) n cap) n (((xs.set (k * 3) a).set (k * 3 + 1) b).set (k * 3 + 2) c) :=
  (((h.stored _ a).1.stored _ b).1.stored _ c).1
theorem below3 {B : Nat} {w w' : World} (h : Below B w w') {g k : Nat} (hg : B ≤ g) (a b c : Value) : Below B w (((w'.setCell ⟨g, k * 3, none⟩ a).setCell ⟨g, k * 3 + 1, none⟩ b).setCell ⟨g, k * 3 + 2, none⟩ c) :=
  ((h.setCell (p := ⟨g, k * 3, none⟩) hg _).setCell (p := ⟨g, k * 3 + 1, none⟩) hg _).setCell (p := ⟨g, k * 3 + 2, none⟩) hg _
/-- a new slice of n inputs -/
def NewIns (n : Nat) (f : Nat → Inp) (w : World) (e : Ending) (w' : World) : Prop :=
  ∃ g cap, e = .returned (.slice (some ⟨g, 0, none⟩) n cap) ∧ InsAt w' (some ⟨g, 0, none⟩) n f ∧ w.heap.size ≤ g ∧ g < w'.heap.size ∧ Below w.heap.size w w'
/-- how much room is left -/
def SzIn (n : Nat) (z v : Int) : Prop := ((n : Int) ≤ z → v = z - n) ∧ (z < (n : Int) → v < 0)
end Go.Proofs.Ytnhjalijnociaaa

/- Legal lists of inputs: the functions of both sides, the walk of FnExactInputsLegal. -/
set_option linter.unusedVariables false
set_option linter.unusedSimpArgs false
namespace Go.Proofs.Ytnhjalijnociaaa
open Go.RowKit

theorem pz_up (f : Nat → Inp) (k : Nat) : pz f (k + 1) = pz f k + (if (f k).b then 1 else 0) := rfl
theorem stE_up (f : Nat → Inp) (k : Nat) : stE f (k + 1) = (f k).s := rfl
theorem fol_valid {l : Lv} {t : Int} {x : Inp} (h : l.fol t x = true) : inpV x.s x.p x.b = true := by
  simp only [Lv.fol, Bool.and_eq_true] at h
  exact h.1.1.1
theorem good_st {l : Lv} {f : Nat → Inp} {k : Nat} (h : l.good f k = true) : -1 ≤ stE f k ∧ stE f k ≤ 1 := by
  cases k with
  | zero => exact ⟨by simp [stE], by simp [stE]⟩
  | succ k =>
    have hb := Lv.good_at h (Nat.lt_succ_self k)
    simp only [Lv.bad, Bool.or_eq_false_iff, Bool.not_eq_false'] at hb
    obtain ⟨v1, v2, _⟩ := inpV_bd (fol_valid hb.2)
    exact ⟨v1, v2⟩
theorem bad_of {l : Lv} {f : Nat → Inp} {k : Nat} {b : Bool} (h1 : ¬ l.ticks ≤ (k : Int)) (h2 : ¬ 3 < pz f (k + 1)) (h3 : l.fol (stE f k) (f k) = b) : l.bad f k = !b := by
  simp [Lv.bad, h1, h2, h3]
set_option maxRecDepth 100000 in
set_option maxHeartbeats 4000000 in
theorem iLegal (l : Lv) (a : Option Addr) (n c : Nat) (f : Nat → Inp) (w : World) (hl : LvAt w l) (hn : n ≤ 1048576) (hx : InsAt w a n f) : Calls Try.prog 50 #[.agg #[.int .i64 l.id, .int .i64 l.ticks, .int .i64 l.sx, .int .i64 l.sy, .slice l.wa l.wn l.wc, .slice l.ga l.gn l.gc, .int .i64 l.flx, .int .i64 l.fly, .int .i64 l.fhx, .int .i64 l.fhy, .int .i64 l.bans], .slice a n c] w fun e w' => e = .returned (.int .i64 (l.legV f n)) ∧ Below w.heap.size w w' := by
  go_enter Try.func50, Try.ntmps50
  go_wp2_with fail
  refine (iLevelValid l _ (hl.keep (by (repeat (first | with_reducible assumption | with_reducible exact Below.refl _ _ | ((with_reducible refine Below.alloc ?_ ?_ _); rotate_left; · exact (by first | omega | (simp; done) | (simp; omega))) | ((with_reducible refine Below.setCell ?_ ?_ _); rotate_left; · exact (by first | omega | (simp; done) | (simp; omega))) | with_reducible refine Below.drew ?_ | assumption | exact Below.refl _ _ | refine Below.alloc ?_ (by first | omega | (simp; done) | (simp; omega)) _ | refine Below.setCell ?_ (by first | omega | (simp; done) | (simp; omega)) _ | refine Below.drew ?_))))).mono ?_
  rintro e w1 ⟨rfl, hb1⟩
  have L1 : Blk w1 w.heap.size #[.int .i64 l.id, .int .i64 l.ticks, .int .i64 l.sx, .int .i64 l.sy, .slice l.wa l.wn l.wc, .slice l.ga l.gn l.gc, .int .i64 l.flx, .int .i64 l.fly, .int .i64 l.fhx, .int .i64 l.fhy, .int .i64 l.bans] := (Blk.at rfl).below hb1 (by simp)
  have hB1 : Below w.heap.size w w1 := bstep (by (repeat (first | with_reducible assumption | with_reducible exact Below.refl _ _ | ((with_reducible refine Below.alloc ?_ ?_ _); rotate_left; · exact (by first | omega | (simp; done) | (simp; omega))) | ((with_reducible refine Below.setCell ?_ ?_ _); rotate_left; · exact (by first | omega | (simp; done) | (simp; omega))) | with_reducible refine Below.drew ?_ | assumption | exact Below.refl _ _ | refine Below.alloc ?_ (by first | omega | (simp; done) | (simp; omega)) _ | refine Below.setCell ?_ (by first | omega | (simp; done) | (simp; omega)) _ | refine Below.drew ?_))) (by first | omega | (simp; done) | (simp; omega)) hb1
  cases hk : l.ok with
  | false =>
    go_wp2
    go_ret
    exact ⟨ret_int (by simp [Lv.legV, hk]), hB1⟩
  | true =>
    obtain ⟨_, ⟨t1, t2⟩, ⟨n0, n3⟩, _⟩ := Lv.ok_num2 hk
    have hV := Lib.hid (show l.legV f n = l.leg f n by rw [Lv.legV, hk]; rfl)
    have hx1 : InsAt w1 a n f := hx.keep hB1
    clear hk hb1
    go_wp2_with fail
    go_loopw [5, 6, 14] (fun pv sv iv wr => ∃ k : Nat, k ≤ n ∧ pv = .int .i64 (pz f k : Nat) ∧ sv = .int .i64 (stE f k) ∧ iv = .int .i64 k ∧ l.good f k = true ∧ Blk wr w.heap.size #[.int .i64 l.id, .int .i64 l.ticks, .int .i64 l.sx, .int .i64 l.sy, .slice l.wa l.wn l.wc, .slice l.ga l.gn l.gc, .int .i64 l.flx, .int .i64 l.fly, .int .i64 l.fhx, .int .i64 l.fhy, .int .i64 l.bans] ∧ Below w.heap.size w wr) (fun _ _ iv _ => n - (intOf iv).toNat)
    case atStart => exact ⟨0, Nat.zero_le _, rfl, rfl, rfl, rfl, L1, hB1⟩
    case round =>
      obtain ⟨k, hk, rfl, rfl, rfl, hg, L2, hB2⟩ := hrel
      have hG := Lib.hid hg
      obtain ⟨st1, st2⟩ := good_st hg
      have hpz := pz_le f k
      clear hg L1 hx1
      by_cases hlt : k < n
      · have hx2 := hx.keep hB2
        obtain ⟨bb, off, rfl, hbl, hcs⟩ := hx2.resolve_left (by omega)
        obtain ⟨e0, e1, e2⟩ := hcs k hlt
        have q1 : (0 : Int) ≤ (k : Int) := by omega
        have q2 : (k : Int) < (n : Int) := by omega
        have hzL := L2.lt
        have c1 := L2.cell 1
        simp only [List.getElem?_toArray, List.getElem?_cons_zero, List.getElem?_cons_succ] at c1
        have hCs := Lib.hid hcs
        have hXx := Lib.hid hx
        clear hcs hx hx2
        generalize hT : stE f k = t at *
        have hZ := Lib.hid (pz_up f k)
        obtain ⟨P, hP⟩ : ∃ P : Nat, P = pz f k := ⟨_, rfl⟩
        rw [← hP] at hpz ⊢
        have hPP := Lib.hid hP
        clear hP
        have hT := Lib.hid hT
        cases hb : (f k).b with
        | false =>
          rw [hb] at e2
          have hpe : pz f (k + 1) = P := by rw [hZ.out, hb, ← hPP.out]; rfl
          have hfk := Lib.hid (show f k = ⟨(f k).s, (f k).p, false⟩ by rw [← hb])
          clear hb
          skip
          by_cases h1 : l.ticks ≤ (k : Int)
          · have hbad : l.bad f k = true := by simp [Lv.bad, h1]
            go_wp2
            go_ret
            exact ⟨ret_int (by rw [hV.out, Lv.leg_bad hG.out hbad n hlt]), by (repeat (first | with_reducible assumption | with_reducible exact Below.refl _ _ | ((with_reducible refine Below.alloc ?_ ?_ _); rotate_left; · exact (by first | omega | (simp; done) | (simp; omega))) | ((with_reducible refine Below.setCell ?_ ?_ _); rotate_left; · exact (by first | omega | (simp; done) | (simp; omega))) | with_reducible refine Below.drew ?_ | assumption | exact Below.refl _ _ | refine Below.alloc ?_ (by first | omega | (simp; done) | (simp; omega)) _ | refine Below.setCell ?_ (by first | omega | (simp; done) | (simp; omega)) _ | refine Below.drew ?_))⟩
          · by_cases h2 : 3 < P
            · have hbad : l.bad f k = true := by simp [Lv.bad, hpe, h2]
              have h2' : (3 : Int) < (P : Nat) := by omega
              have hBd := Lib.hid hbad
              clear hbad hpe h2
              go_wp2
              go_ret
              exact ⟨ret_int (by rw [hV.out, Lv.leg_bad hG.out hBd.out n hlt]), by (repeat (first | with_reducible assumption | with_reducible exact Below.refl _ _ | ((with_reducible refine Below.alloc ?_ ?_ _); rotate_left; · exact (by first | omega | (simp; done) | (simp; omega))) | ((with_reducible refine Below.setCell ?_ ?_ _); rotate_left; · exact (by first | omega | (simp; done) | (simp; omega))) | with_reducible refine Below.drew ?_ | assumption | exact Below.refl _ _ | refine Below.alloc ?_ (by first | omega | (simp; done) | (simp; omega)) _ | refine Below.setCell ?_ (by first | omega | (simp; done) | (simp; omega)) _ | refine Below.drew ?_))⟩
            · have h2' : ¬ (3 : Int) < (P : Nat) := by omega
              have hPe := Lib.hid hpe
              have h2h := Lib.hid h2
              have h1h := Lib.hid h1
              clear hpe h2
              have J0 : Blk (wr.alloc (.cells #[.int .i64 (f k).s, .int .i64 (f k).p, .bool false] 33)) wr.heap.size #[.int .i64 (f k).s, .int .i64 (f k).p, .bool false] := Blk.at rfl
              have L3 := L2.alloc (.cells #[.int .i64 (f k).s, .int .i64 (f k).p, .bool false] 33)
              obtain ⟨r0, r1, r2, r3, r4, r5, r6, r7, r8, r9, r10⟩ := L2.c11
              go_wp2_with fail
              refine (iFollows l t (f k).s (f k).p false _ n0 n3 st1 st2).mono ?_
              rintro e w4 ⟨rfl, hb4⟩
              have J4 := J0.below hb4 J0.lt
              have L4 := L3.below hb4 L3.lt
              have hB4 : Below w.heap.size w w4 := bstep (by (repeat (first | with_reducible assumption | with_reducible exact Below.refl _ _ | ((with_reducible refine Below.alloc ?_ ?_ _); rotate_left; · exact (by first | omega | (simp; done) | (simp; omega))) | ((with_reducible refine Below.setCell ?_ ?_ _); rotate_left; · exact (by first | omega | (simp; done) | (simp; omega))) | with_reducible refine Below.drew ?_ | assumption | exact Below.refl _ _ | refine Below.alloc ?_ (by first | omega | (simp; done) | (simp; omega)) _ | refine Below.setCell ?_ (by first | omega | (simp; done) | (simp; omega)) _ | refine Below.drew ?_))) (by first | omega | (simp; done) | (simp; omega)) hb4
              have j0 := J4.cell 0
              simp only [List.getElem?_toArray, List.getElem?_cons_zero, List.getElem?_cons_succ] at j0
              clear r0 r1 r2 r3 r4 r5 r6 r7 r8 r9 r10 J0 L3 hb4
              obtain ⟨v, hv⟩ : ∃ v, l.fol t ⟨(f k).s, (f k).p, false⟩ = v := ⟨_, rfl⟩
              rw [hv]
              have hbv : l.bad f k = !v := bad_of (by have := h1h.out; omega) (by rw [hPe.out]; exact h2h.out) (by rw [hT.out, hfk.out]; exact hv)
              have hBv := Lib.hid hbv
              clear hv hbv
              cases v with
              | false =>
                go_wp2
                go_ret
                exact ⟨ret_int (by rw [hV.out, Lv.leg_bad hG.out (by rw [hBv.out]; rfl) n hlt]), hB4⟩
              | true =>
                go_wp2
                go_roundw
                case rel => exact ⟨k + 1, by omega, by first | (rw [hPe.out]; done) | (rw [hPe.out]; go_num), by rw [stE_up], by go_num, Lv.good_yes hG.out (by rw [hBv.out]; rfl), L4, hB4⟩
                case measure => simp [intOf]; omega
        | true =>
          rw [hb] at e2
          have hpe : pz f (k + 1) = P + 1 := by rw [hZ.out, hb, ← hPP.out]; rfl
          have hfk := Lib.hid (show f k = ⟨(f k).s, (f k).p, true⟩ by rw [← hb])
          clear hb
          skip
          by_cases h1 : l.ticks ≤ (k : Int)
          · have hbad : l.bad f k = true := by simp [Lv.bad, h1]
            go_wp2
            go_ret
            exact ⟨ret_int (by rw [hV.out, Lv.leg_bad hG.out hbad n hlt]), by (repeat (first | with_reducible assumption | with_reducible exact Below.refl _ _ | ((with_reducible refine Below.alloc ?_ ?_ _); rotate_left; · exact (by first | omega | (simp; done) | (simp; omega))) | ((with_reducible refine Below.setCell ?_ ?_ _); rotate_left; · exact (by first | omega | (simp; done) | (simp; omega))) | with_reducible refine Below.drew ?_ | assumption | exact Below.refl _ _ | refine Below.alloc ?_ (by first | omega | (simp; done) | (simp; omega)) _ | refine Below.setCell ?_ (by first | omega | (simp; done) | (simp; omega)) _ | refine Below.drew ?_))⟩
          · by_cases h2 : 3 < (P + 1)
            · have hbad : l.bad f k = true := by simp [Lv.bad, hpe, h2]
              have h2' : (3 : Int) < ((P + 1) : Nat) := by omega
              have hBd := Lib.hid hbad
              clear hbad hpe h2
              go_wp2
              go_ret
              exact ⟨ret_int (by rw [hV.out, Lv.leg_bad hG.out hBd.out n hlt]), by (repeat (first | with_reducible assumption | with_reducible exact Below.refl _ _ | ((with_reducible refine Below.alloc ?_ ?_ _); rotate_left; · exact (by first | omega | (simp; done) | (simp; omega))) | ((with_reducible refine Below.setCell ?_ ?_ _); rotate_left; · exact (by first | omega | (simp; done) | (simp; omega))) | with_reducible refine Below.drew ?_ | assumption | exact Below.refl _ _ | refine Below.alloc ?_ (by first | omega | (simp; done) | (simp; omega)) _ | refine Below.setCell ?_ (by first | omega | (simp; done) | (simp; omega)) _ | refine Below.drew ?_))⟩
            · have h2' : ¬ (3 : Int) < ((P + 1) : Nat) := by omega
              have hPe := Lib.hid hpe
              have h2h := Lib.hid h2
              have h1h := Lib.hid h1
              clear hpe h2
              have J0 : Blk (wr.alloc (.cells #[.int .i64 (f k).s, .int .i64 (f k).p, .bool true] 33)) wr.heap.size #[.int .i64 (f k).s, .int .i64 (f k).p, .bool true] := Blk.at rfl
              have L3 := L2.alloc (.cells #[.int .i64 (f k).s, .int .i64 (f k).p, .bool true] 33)
              obtain ⟨r0, r1, r2, r3, r4, r5, r6, r7, r8, r9, r10⟩ := L2.c11
              go_wp2_with fail
              refine (iFollows l t (f k).s (f k).p true _ n0 n3 st1 st2).mono ?_
              rintro e w4 ⟨rfl, hb4⟩
              have J4 := J0.below hb4 J0.lt
              have L4 := L3.below hb4 L3.lt
              have hB4 : Below w.heap.size w w4 := bstep (by (repeat (first | with_reducible assumption | with_reducible exact Below.refl _ _ | ((with_reducible refine Below.alloc ?_ ?_ _); rotate_left; · exact (by first | omega | (simp; done) | (simp; omega))) | ((with_reducible refine Below.setCell ?_ ?_ _); rotate_left; · exact (by first | omega | (simp; done) | (simp; omega))) | with_reducible refine Below.drew ?_ | assumption | exact Below.refl _ _ | refine Below.alloc ?_ (by first | omega | (simp; done) | (simp; omega)) _ | refine Below.setCell ?_ (by first | omega | (simp; done) | (simp; omega)) _ | refine Below.drew ?_))) (by first | omega | (simp; done) | (simp; omega)) hb4
              have j0 := J4.cell 0
              simp only [List.getElem?_toArray, List.getElem?_cons_zero, List.getElem?_cons_succ] at j0
              clear r0 r1 r2 r3 r4 r5 r6 r7 r8 r9 r10 J0 L3 hb4
              obtain ⟨v, hv⟩ : ∃ v, l.fol t ⟨(f k).s, (f k).p, true⟩ = v := ⟨_, rfl⟩
              rw [hv]
              have hbv : l.bad f k = !v := bad_of (by have := h1h.out; omega) (by rw [hPe.out]; exact h2h.out) (by rw [hT.out, hfk.out]; exact hv)
              have hBv := Lib.hid hbv
              clear hv hbv
              cases v with
              | false =>
                go_wp2
                go_ret
                exact ⟨ret_int (by rw [hV.out, Lv.leg_bad hG.out (by rw [hBv.out]; rfl) n hlt]), hB4⟩
              | true =>
                go_wp2
                go_roundw
                case rel => exact ⟨k + 1, by omega, by first | (rw [hPe.out]; done) | (rw [hPe.out]; go_num), by rw [stE_up], by go_num, Lv.good_yes hG.out (by rw [hBv.out]; rfl), L4, hB4⟩
                case measure => simp [intOf]; omega
      · obtain rfl : k = n := by omega
        go_wp2
        go_ret
        exact ⟨ret_int (by rw [hV.out, Lv.leg_good hG.out]), hB2⟩
end Go.Proofs.Ytnhjalijnociaaa

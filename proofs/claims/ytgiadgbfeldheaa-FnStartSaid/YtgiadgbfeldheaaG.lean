/- What structs that came in look like: vectors, boxes, levels; slices of boxes. -/
import Derived.Test.YtgiadgbfeldheaaL
namespace Go.Proofs.Ytgiadgbfeldheaa
open Go.ChangeShapes Go.WideShapes Go.ChangeAt Go.RowKit

/-- a box -/
structure Bx where
  lx : Int
  ly : Int
  hx : Int
  hy : Int
/-- .. whose numbers are ints -/
def Bx.wf (b : Bx) : Prop := (Lit.int .i64 b.lx).wf = true ∧ (Lit.int .i64 b.ly).wf = true ∧ (Lit.int .i64 b.hx).wf = true ∧ (Lit.int .i64 b.hy).wf = true
/-- .. its four cells at a place -/
def BoxCells (w : World) (b o : Nat) (x : Bx) : Prop :=
  w.cell? ⟨b, o, none⟩ = some (.int .i64 x.lx) ∧ w.cell? ⟨b, o + 1, none⟩ = some (.int .i64 x.ly) ∧ w.cell? ⟨b, o + 2, none⟩ = some (.int .i64 x.hx) ∧ w.cell? ⟨b, o + 3, none⟩ = some (.int .i64 x.hy)
/-- a slice of n boxes: f gives them -/
def BoxesAt (w : World) (a : Option Addr) (n : Nat) (f : Nat → Bx) : Prop :=
  n = 0 ∨ ∃ b off, a = some ⟨b, off, none⟩ ∧ b < w.heap.size ∧ ∀ i, i < n → BoxCells w b (off + i * 4) (f i)
theorem BoxCells.keep {w w' : World} {B b o : Nat} {x : Bx} (h : BoxCells w b o x) (hb : Below B w w') (hlt : b < B) : BoxCells w' b o x :=
  ⟨(hb.cell hlt).trans h.1, (hb.cell hlt).trans h.2.1, (hb.cell hlt).trans h.2.2.1, (hb.cell hlt).trans h.2.2.2⟩
theorem BoxesAt.keep {w w' : World} {a : Option Addr} {n : Nat} {f : Nat → Bx} (h : BoxesAt w a n f) (hb : Below w.heap.size w w') : BoxesAt w' a n f := by
  rcases h with h | ⟨b, off, ha, hlt, hc⟩
  · exact .inl h
  · exact .inr ⟨b, off, ha, Nat.lt_of_lt_of_le hlt hb.size, fun i hi => (hc i hi).keep hb hlt⟩

theorem list2 {cs : List Value} (h : cs.length = 2) : ∃ a b, cs = [a, b] := by
  match cs, h with
  | [a, b], _ => exact ⟨a, b, rfl⟩
theorem list4 {cs : List Value} (h : cs.length = 4) : ∃ a b c d, cs = [a, b, c, d] := by
  match cs, h with
  | [a, b, c, d], _ => exact ⟨a, b, c, d, rfl⟩
theorem array11 {α : Type} {cs : Array α} (h : cs.size = 11) : ∃ a b c d e f g h' i j k, cs = #[a, b, c, d, e, f, g, h', i, j, k] := by
  obtain ⟨l⟩ := cs
  match l, h with
  | [a, b, c, d, e, f, g, h', i, j, k], _ => exact ⟨a, b, c, d, e, f, g, h', i, j, k, rfl⟩

section
variable {H : Type} {enc : TypeId × Value → H} {w : World} {spare : Nat → Bool}
theorem kInt : Try.prog.cellsOf 3 = 1 := by kernel_rfl
theorem kVec : Try.prog.cellsOf 23 = 2 := by kernel_rfl
theorem rd_vec {fuel : Nat} {cs : List Value} {y : DataW H × List MemPlace} (h : DataW.trod enc Try.prog w 0 spare true fuel 23 cs = some y) :
    ∃ a b : Int, cs = [.int .i64 a, .int .i64 b] ∧ (Lit.int .i64 a).wf = true ∧ (Lit.int .i64 b).wf = true := by
  obtain ⟨xs, n, _, _, hl, hlen, hf⟩ := DataW.trod_struct Try.underlying23 h
  obtain ⟨c0, c1, rfl⟩ := list2 (hl.trans kVec)
  match xs, hlen with
  | [x0, x1], _ =>
    have h0 : DataW.trod enc Try.prog w 0 spare true n 3 [c0] = some x0 := by have := hf 0 _ rfl; simpa [kInt] using this
    have h1 : DataW.trod enc Try.prog w 0 spare true n 3 [c1] = some x1 := by have := hf 1 _ rfl; simpa [kInt] using this
    obtain ⟨a, e0, _, wa⟩ := DataW.trod_int Try.underlying3 h0
    obtain ⟨b, e1, _, wb⟩ := DataW.trod_int Try.underlying3 h1
    simp only [List.cons.injEq, and_true] at e0 e1
    subst e0 e1
    exact ⟨a, b, rfl, wa, wb⟩
theorem kBox : Try.prog.cellsOf 26 = 4 := by kernel_rfl
theorem rd_box {fuel : Nat} {cs : List Value} {y : DataW H × List MemPlace} (h : DataW.trod enc Try.prog w 0 spare true fuel 26 cs = some y) :
    ∃ b : Bx, cs = [.int .i64 b.lx, .int .i64 b.ly, .int .i64 b.hx, .int .i64 b.hy] ∧ b.wf := by
  obtain ⟨xs, n, _, _, hl, hlen, hf⟩ := DataW.trod_struct Try.underlying26 h
  obtain ⟨c0, c1, c2, c3, rfl⟩ := list4 (hl.trans kBox)
  match xs, hlen with
  | [x0, x1], _ =>
    have h0 : DataW.trod enc Try.prog w 0 spare true n 23 [c0, c1] = some x0 := by have := hf 0 _ rfl; simpa [kVec] using this
    have h1 : DataW.trod enc Try.prog w 0 spare true n 23 [c2, c3] = some x1 := by have := hf 1 _ rfl; simpa [kVec] using this
    obtain ⟨a, b, e0, wa, wb⟩ := rd_vec h0
    obtain ⟨c, d, e1, wc, wd⟩ := rd_vec h1
    simp only [List.cons.injEq, and_true] at e0 e1
    obtain ⟨e00, e01⟩ := e0
    obtain ⟨e10, e11⟩ := e1
    subst e00 e01 e10 e11
    exact ⟨⟨a, b, c, d⟩, rfl, wa, wb, wc, wd⟩
/-- a slice of boxes that came in -/
theorem rd_boxes {fuel : Nat} {a : Option Addr} {len cap : Nat} {y : DataW H × List MemPlace} (h : DataW.trod enc Try.prog w 0 spare true fuel 24 [.slice a len cap] = some y) :
    ∃ f : Nat → Bx, BoxesAt w a len f ∧ (∀ i, i < len → (f i).wf) ∧ len ≤ maxLen := by
  rcases DataW.trod_slice Try.underlying24 h with ⟨hcs, _⟩ | ⟨x, l, c, elems, rest, n, _, hcs, _, _, hl, hm, hlen, hel, _⟩
  · simp only [List.cons.injEq, Value.slice.injEq, and_true] at hcs
    obtain ⟨rfl, rfl, rfl⟩ := hcs
    exact ⟨fun _ => ⟨0, 0, 0, 0⟩, .inl rfl, fun i hi => absurd hi (Nat.not_lt_zero _), by simp [maxLen]⟩
  · simp only [List.cons.injEq, Value.slice.injEq, and_true] at hcs
    obtain ⟨rfl, rfl, rfl⟩ := hcs
    rw [kBox] at hel
    have each : ∀ i, i < len → ∃ b : Bx, b.wf ∧ w.cell? ((x.add (i * 4)).add 0) = some (.int .i64 b.lx) ∧ w.cell? ((x.add (i * 4)).add 1) = some (.int .i64 b.ly) ∧ w.cell? ((x.add (i * 4)).add 2) = some (.int .i64 b.hx) ∧ w.cell? ((x.add (i * 4)).add 3) = some (.int .i64 b.hy) := by
      intro i hi
      have hi' := hel i hi
      rw [List.getElem?_eq_getElem (by omega), Option.bind_eq_some_iff] at hi'
      obtain ⟨cs, hc, ht⟩ := hi'
      obtain ⟨b, rfl, hw⟩ := rd_box ht
      obtain ⟨_, _, hcell⟩ := World.cells?_some hc
      exact ⟨b, hw, by simpa using hcell 0 (by omega), by simpa using hcell 1 (by omega), by simpa using hcell 2 (by omega), by simpa using hcell 3 (by omega)⟩
    obtain ⟨f, hf⟩ : ∃ f : Nat → Bx, ∀ i, i < len → (f i).wf ∧ w.cell? ((x.add (i * 4)).add 0) = some (.int .i64 (f i).lx) ∧ w.cell? ((x.add (i * 4)).add 1) = some (.int .i64 (f i).ly) ∧ w.cell? ((x.add (i * 4)).add 2) = some (.int .i64 (f i).hx) ∧ w.cell? ((x.add (i * 4)).add 3) = some (.int .i64 (f i).hy) := by
      refine ⟨fun i => if h : i < len then Classical.choose (each i h) else ⟨0, 0, 0, 0⟩, fun i hi => ?_⟩
      simp only [hi, dite_true]
      exact Classical.choose_spec (each i hi)
    refine ⟨f, ?_, fun i hi => (hf i hi).1, by omega⟩
    rcases Nat.eq_zero_or_pos len with h0 | hp
    · exact .inl h0
    · obtain ⟨b, off, spot⟩ := x
      have hc0 := (hf 0 hp).2.1
      have hspot : spot = none := by simpa [Addr.add] using World.cell?_spot hc0
      subst hspot
      refine .inr ⟨b, off, rfl, ?_, fun i hi => ?_⟩
      · by_cases hlt : b < w.heap.size
        · exact hlt
        · exfalso
          have : w.heap[b]? = none := by simp; omega
          simp [World.cell?, Addr.add, this] at hc0
      · have h := (hf i hi).2
        simp only [addr_add, Nat.add_zero] at h
        exact h
end
end Go.Proofs.Ytgiadgbfeldheaa

/- What levels, states, vectors and lists of inputs that came in look like. -/
import Derived.Test.YtnhjalijnociaaaQad
set_option linter.unusedVariables false
namespace Go.Proofs.Ytnhjalijnociaaa
open Go.ChangeShapes Go.WideShapes Go.ChangeAt Go.RowKit

section
variable {H : Type} {enc : TypeId × Value → H} {w : World} {spare : Nat → Bool}
theorem rd_int1 {fuel : Nat} {c : Value} {y : DataW H × List MemPlace} (h : DataW.trod enc Try.prog w 0 spare true fuel 3 [c] = some y) : ∃ a : Int, c = .int .i64 a := by
  obtain ⟨a, e0, _, _⟩ := DataW.trod_int Try.underlying3 h
  simp only [List.cons.injEq, and_true] at e0
  exact ⟨a, e0⟩
theorem array2 {α : Type} {cs : Array α} (h : cs.size = 2) : ∃ a b, cs = #[a, b] := by
  obtain ⟨l⟩ := cs
  match l, h with
  | [a, b], _ => exact ⟨a, b, rfl⟩
theorem array9 {α : Type} {cs : Array α} (h : cs.size = 9) : ∃ a b c d e f g h' i, cs = #[a, b, c, d, e, f, g, h', i] := by
  obtain ⟨l⟩ := cs
  match l, h with
  | [a, b, c, d, e, f, g, h', i], _ => exact ⟨a, b, c, d, e, f, g, h', i, rfl⟩
set_option maxRecDepth 100000 in
theorem open_vec {b0 : Nat} {v : Value} {d : DataW H} {p : List MemPlace} (hv : Value.okWide Try.prog w .any b0 40 v) (h : DataW.Trod enc Try.prog w 0 (fun _ => true) true 40 v d p) : ∃ x y : Int, v = .agg #[.int .i64 x, .int .i64 y] := by
  obtain ⟨cs, rfl, hsz⟩ := okWide_struct Try.underlying40 hv
  obtain ⟨a, b, rfl⟩ := array2 (hsz.trans kVec)
  obtain ⟨fuel, hf⟩ := h
  obtain ⟨x, y, e, _⟩ := rd_vec hf
  simp only [Value.cells, List.cons.injEq, and_true] at e
  obtain ⟨rfl, rfl⟩ := e
  exact ⟨x, y, rfl⟩
theorem rd_sl {fuel : Nat} {c : Value} {y : DataW H × List MemPlace} (h : DataW.trod enc Try.prog w 0 spare true fuel 41 [c] = some y) : ∃ a n k, c = .slice a n k := by
  rcases DataW.trod_slice Try.underlying41 h with ⟨hcs, _⟩ | ⟨x, l, c, elems, rest, n, _, hcs, _⟩
  · simp only [List.cons.injEq, and_true] at hcs
    exact ⟨_, _, _, hcs⟩
  · simp only [List.cons.injEq, and_true] at hcs
    exact ⟨_, _, _, hcs⟩
theorem kLevel : Try.prog.cellsOf 45 = 11 := by kernel_rfl
theorem kBoxes : Try.prog.cellsOf 41 = 1 := by kernel_rfl
set_option maxRecDepth 100000 in
/-- a level that came in -/
theorem open_level {b0 : Nat} {v : Value} {d : DataW H} {p : List MemPlace} (hv : Value.okWide Try.prog w .any b0 45 v) (h : DataW.Trod enc Try.prog w 0 (fun _ => true) true 45 v d p) :
    ∃ l : Lv, v = .agg #[.int .i64 l.id, .int .i64 l.ticks, .int .i64 l.sx, .int .i64 l.sy, .slice l.wa l.wn l.wc, .slice l.ga l.gn l.gc, .int .i64 l.flx, .int .i64 l.fly, .int .i64 l.fhx, .int .i64 l.fhy, .int .i64 l.bans] ∧ LvAt w l ∧ l.wn ≤ maxLen ∧ l.gn ≤ maxLen := by
  obtain ⟨cs, rfl, hsz⟩ := okWide_struct Try.underlying45 hv
  obtain ⟨c0, c1, c2, c3, c4, c5, c6, c7, c8, c9, c10, rfl⟩ := array11 (hsz.trans kLevel)
  obtain ⟨fuel, hf⟩ := h
  obtain ⟨xs, n, _, _, hl, hlen, hf⟩ := DataW.trod_struct Try.underlying45 hf
  simp only [Value.cells] at hf
  match xs, hlen with
  | [x0, x1, x2, x3, x4, x5, x6], _ =>
    have h0 : DataW.trod enc Try.prog w 0 (fun _ => true) true n 3 [c0] = some x0 := by have := hf 0 _ rfl; simpa [kInt] using this
    have h1 : DataW.trod enc Try.prog w 0 (fun _ => true) true n 3 [c1] = some x1 := by have := hf 1 _ rfl; simpa [kInt] using this
    have h2 : DataW.trod enc Try.prog w 0 (fun _ => true) true n 40 [c2, c3] = some x2 := by have := hf 2 _ rfl; simpa [kVec] using this
    have h3 : DataW.trod enc Try.prog w 0 (fun _ => true) true n 41 [c4] = some x3 := by have := hf 3 _ rfl; simpa [kBoxes] using this
    have h4 : DataW.trod enc Try.prog w 0 (fun _ => true) true n 41 [c5] = some x4 := by have := hf 4 _ rfl; simpa [kBoxes] using this
    have h5 : DataW.trod enc Try.prog w 0 (fun _ => true) true n 43 [c6, c7, c8, c9] = some x5 := by have := hf 5 _ rfl; simpa [kBox] using this
    have h6 : DataW.trod enc Try.prog w 0 (fun _ => true) true n 3 [c10] = some x6 := by have := hf 6 _ rfl; simpa [kInt] using this
    obtain ⟨a0, rfl⟩ := rd_int1 h0
    obtain ⟨a1, rfl⟩ := rd_int1 h1
    obtain ⟨a2, a3, e2, _⟩ := rd_vec h2
    obtain ⟨wa, wn, wc, rfl⟩ := rd_sl h3
    obtain ⟨ga, gn, gc, rfl⟩ := rd_sl h4
    obtain ⟨b, e5, _⟩ := rd_box h5
    obtain ⟨a6, rfl⟩ := rd_int1 h6
    obtain ⟨wf, hw1, _, hw2⟩ := rd_boxes h3
    obtain ⟨gf, hg1, _, hg2⟩ := rd_boxes h4
    simp only [List.cons.injEq, and_true] at e2 e5
    obtain ⟨rfl, rfl⟩ := e2
    obtain ⟨rfl, rfl, rfl, rfl⟩ := e5
    exact ⟨⟨a0, a1, a2, a3, wa, wn, wc, ga, gn, gc, b.lx, b.ly, b.hx, b.hy, a6, wf, gf⟩, rfl, ⟨hw1, hg1⟩, hw2, hg2⟩
end
end Go.Proofs.Ytnhjalijnociaaa

/- What states that came in look like. -/
import Derived.Test.YtnhjalijnociaaaGl
import Derived.Test.YtnhjalijnociaaaQar
set_option linter.unusedVariables false
namespace Go.Proofs.Ytnhjalijnociaaa
open Go.ChangeShapes Go.WideShapes Go.ChangeAt Go.RowKit

section
variable {H : Type} {enc : TypeId × Value → H} {w : World}
theorem kState : Try.prog.cellsOf 47 = 9 := by kernel_rfl
theorem kBool : Try.prog.cellsOf 4 = 1 := by kernel_rfl
theorem rd_bool1 {fuel : Nat} {c : Value} {y : DataW H × List MemPlace} (h : DataW.trod enc Try.prog w 0 (fun _ => true) true fuel 4 [c] = some y) : ∃ a : Bool, c = .bool a := by
  obtain ⟨a, e0, _⟩ := DataW.trod_bool Try.underlying4 h
  simp only [List.cons.injEq, and_true] at e0
  exact ⟨a, e0⟩
set_option maxRecDepth 100000 in
theorem open_state {b0 : Nat} {v : Value} {d : DataW H} {p : List MemPlace} (hv : Value.okWide Try.prog w .any b0 47 v) (h : DataW.Trod enc Try.prog w 0 (fun _ => true) true 47 v d p) :
    ∃ s : St, v = .agg #[.int .i64 s.tick, .int .i64 s.ax, .int .i64 s.ay, .int .i64 s.fx, .int .i64 s.fy, .int .i64 s.turn, .int .i64 s.gate, .bool s.done, .bool s.over] := by
  obtain ⟨cs, rfl, hsz⟩ := okWide_struct Try.underlying47 hv
  obtain ⟨c0, c1, c2, c3, c4, c5, c6, c7, c8, rfl⟩ := array9 (hsz.trans kState)
  obtain ⟨fuel, hf⟩ := h
  obtain ⟨xs, n, _, _, hl, hlen, hf⟩ := DataW.trod_struct Try.underlying47 hf
  simp only [Value.cells] at hf
  match xs, hlen with
  | [x0, x1, x2, x3, x4, x5, x6], _ =>
    have h0 : DataW.trod enc Try.prog w 0 (fun _ => true) true n 3 [c0] = some x0 := by have := hf 0 _ rfl; simpa [kInt] using this
    have h1 : DataW.trod enc Try.prog w 0 (fun _ => true) true n 40 [c1, c2] = some x1 := by have := hf 1 _ rfl; simpa [kVec] using this
    have h2 : DataW.trod enc Try.prog w 0 (fun _ => true) true n 40 [c3, c4] = some x2 := by have := hf 2 _ rfl; simpa [kVec] using this
    have h3 : DataW.trod enc Try.prog w 0 (fun _ => true) true n 3 [c5] = some x3 := by have := hf 3 _ rfl; simpa [kInt] using this
    have h4 : DataW.trod enc Try.prog w 0 (fun _ => true) true n 3 [c6] = some x4 := by have := hf 4 _ rfl; simpa [kInt] using this
    have h5 : DataW.trod enc Try.prog w 0 (fun _ => true) true n 4 [c7] = some x5 := by have := hf 5 _ rfl; simpa [kBool] using this
    have h6 : DataW.trod enc Try.prog w 0 (fun _ => true) true n 4 [c8] = some x6 := by have := hf 6 _ rfl; simpa [kBool] using this
    obtain ⟨a0, rfl⟩ := rd_int1 h0
    obtain ⟨a1, a2, e1, _⟩ := rd_vec h1
    obtain ⟨a3, a4, e2, _⟩ := rd_vec h2
    obtain ⟨a5, rfl⟩ := rd_int1 h3
    obtain ⟨a6, rfl⟩ := rd_int1 h4
    obtain ⟨a7, rfl⟩ := rd_bool1 h5
    obtain ⟨a8, rfl⟩ := rd_bool1 h6
    simp only [List.cons.injEq, and_true] at e1 e2
    obtain ⟨rfl, rfl⟩ := e1
    obtain ⟨rfl, rfl⟩ := e2
    exact ⟨⟨a0, a1, a2, a3, a4, a5, a6, a7, a8⟩, rfl⟩
end
end Go.Proofs.Ytnhjalijnociaaa

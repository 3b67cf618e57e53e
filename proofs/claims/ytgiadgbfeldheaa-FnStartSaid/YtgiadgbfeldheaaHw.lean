/- The hash of a level, of the program and of the reference. -/
import Derived.Test.YtgiadgbfeldheaaHl
import Derived.Test.YtgiadgbfeldheaaTp
set_option linter.unusedVariables false
namespace Go.Proofs.Ytgiadgbfeldheaa
open Go.RowKit

theorem ints4 {W : World} {g : Nat} {a b c d : Int} (h : Blk W g #[.int .i64 a, .int .i64 b, .int .i64 c, .int .i64 d]) : IntsAt W (some ⟨g, 0, none⟩) 4 (fun i => [a, b, c, d].getD i 0) :=
  .inr ⟨g, 0, rfl, h.lt, fun i hi => by
    have hm : i = 0 ∨ i = 1 ∨ i = 2 ∨ i = 3 := by omega
    rcases hm with rfl | rfl | rfl | rfl
    · exact h.cell 0
    · exact h.cell 1
    · exact h.cell 2
    · exact h.cell 3⟩
theorem ints7 {W : World} {g : Nat} {a b c d e f k : Int} (h : Blk W g #[.int .i64 a, .int .i64 b, .int .i64 c, .int .i64 d, .int .i64 e, .int .i64 f, .int .i64 k]) : IntsAt W (some ⟨g, 0, none⟩) 7 (fun i => [a, b, c, d, e, f, k].getD i 0) :=
  .inr ⟨g, 0, rfl, h.lt, fun i hi => by
    have hm : i = 0 ∨ i = 1 ∨ i = 2 ∨ i = 3 ∨ i = 4 ∨ i = 5 ∨ i = 6 := by omega
    rcases hm with rfl | rfl | rfl | rfl | rfl | rfl | rfl
    · exact h.cell 0
    · exact h.cell 1
    · exact h.cell 2
    · exact h.cell 3
    · exact h.cell 4
    · exact h.cell 5
    · exact h.cell 6⟩
theorem BoxesAt.up {w w' : World} {R g n : Nat} {f : Nat → Bx} (h : BoxesAt w (some ⟨g, 0, none⟩) n f) (hu : Up R w.heap.size w w') (hlt : g < w.heap.size) (hne : g ≠ R) : BoxesAt w' (some ⟨g, 0, none⟩) n f :=
  h.same hu.size fun p hp => by cases hp; exact hu.block g hlt hne
theorem hfo_head (l : Lv) : hfo (fun i => [l.id, l.ticks, l.sx, l.sy, (l.wn : Int), (l.gn : Int), l.bans].getD i 0) 17 7 = l.head.foldl hst 17 := hfo_list l.head 17
theorem hfo_box (b : Bx) (h : Int) : hfo (fun i => [b.lx, b.ly, b.hx, b.hy].getD i 0) h 4 = b.nums.foldl hst h := hfo_list b.nums h


theorem infoInt' : (Try.prog.info? 3).map (fun i => (i.zero, i.size, i.bytes)) = some (some (.int .i64 0), 1, 8) := by kernel_rfl
/-- a list of numbers as cells -/
def ivals (zs : List Int) : List Value := zs.map (Value.int .i64)
theorem ivals_one (zs : List Int) : ∀ u ∈ ivals zs, u.oneCell' = true := by
  intro u hu
  obtain ⟨z, _, rfl⟩ := List.mem_map.1 hu
  rfl
theorem ints_row {w : World} {base g n cap : Nat} {zs : List Int} (h : w.ownsRow base 3 1 (.slice (some ⟨g, 0, none⟩) n cap) n (ivals zs)) : IntsAt w (some ⟨g, 0, none⟩) n (fun i => zs.getD i 0) := by
  have hl : zs.length = n := by have := h.1; simpa [ivals] using this
  refine .inr ⟨g, 0, rfl, (h.lt _ rfl).2, fun i hi => ?_⟩
  rw [Nat.zero_add, h.cellAt i (by omega)]
  have hi' : i < zs.length := by omega
  simp [ivals, List.getD, hi']
/-- a new list of a box's numbers -/
def NewNums (b : Bx) (w : World) (e : Ending) (w' : World) : Prop := ∃ g, e = .returned (.slice (some ⟨g, 0, none⟩) 4 4) ∧ Blk w' g #[.int .i64 b.lx, .int .i64 b.ly, .int .i64 b.hx, .int .i64 b.hy] ∧ w.heap.size ≤ g ∧ Below w.heap.size w w'
end Go.Proofs.Ytgiadgbfeldheaa

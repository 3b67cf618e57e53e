/- What is forbidden in a level, whether the car is free at a point: of the program and of the reference. -/
import Derived.Test.YtgiadgbfeldheaaLd
namespace Go.Proofs.Ytgiadgbfeldheaa
open Go.RowKit
attribute [local go_sem] BelW.cell_eq nl1 nl2 nl3 nl4 nl5 nl6 nl7 nl8 nl9 nl10 nl11

theorem Lv.ok_id {l : Lv} (h : l.ok = true) : inB l.id 0 99 = true ∧ inB l.ticks 1 60 = true ∧ vokB l.sx l.sy = true ∧ l.wn ≤ 4 ∧ bxsB l.wf l.wn = true ∧ l.gn ≤ 3 ∧ bxsB l.gf l.gn = true ∧ bxB l.flx l.fly l.fhx l.fhy = true ∧ inB l.bans 0 3 = true ∧ frB l.wf l.sx l.sy l.wn = true := by
  simp only [Lv.ok, Bool.and_eq_true, decide_eq_true_eq] at h
  obtain ⟨⟨⟨⟨⟨⟨⟨⟨⟨h1, h2⟩, h3⟩, h4⟩, h5⟩, h6⟩, h7⟩, h8⟩, h9⟩, h10⟩ := h
  exact ⟨h1, h2, h3, h4, h5, h6, h7, h8, h9, h10⟩

/-- a number's bit -/
def banB (b n : Int) : Bool := b / n % 2 == 1
theorem and_bits : bits .and .i64 0 1 = 0 ∧ bits .and .i64 0 2 = 0 ∧ bits .and .i64 1 1 = 1 ∧ bits .and .i64 1 2 = 0 ∧ bits .and .i64 2 1 = 0 ∧ bits .and .i64 2 2 = 2 ∧ bits .and .i64 3 1 = 1 ∧ bits .and .i64 3 2 = 2 := by decide +kernel
theorem and_ban {b n : Int} (h0 : 0 ≤ b) (h3 : b ≤ 3) (hn : n = 1 ∨ n = 2) : (!(bits .and .i64 b n == 0)) = banB b n := by
  obtain ⟨e1, e2, e3, e4, e5, e6, e7, e8⟩ := and_bits
  have hb : b = 0 ∨ b = 1 ∨ b = 2 ∨ b = 3 := by omega
  rcases hb with rfl | rfl | rfl | rfl <;> rcases hn with rfl | rfl
  · rw [e1]; rfl
  · rw [e2]; rfl
  · rw [e3]; rfl
  · rw [e4]; rfl
  · rw [e5]; rfl
  · rw [e6]; rfl
  · rw [e7]; rfl
  · rw [e8]; rfl

/-- a level forbids something -/
def Lv.bansB (l : Lv) (n : Int) : Bool := l.ok && (decide (n = 1) || decide (n = 2)) && banB l.bans n
end Go.Proofs.Ytgiadgbfeldheaa

/- For the laws on legal lists: a law's variables, lists cut. -/
import Derived.Test.YtnhjalijnociaaaNy
import Derived.Test.YtnhjalijnociaaaLq
set_option linter.unusedVariables false
set_option linter.unusedSimpArgs false
namespace Go.Proofs.Ytnhjalijnociaaa
open Go.RowKit

theorem run_cutI (g n c k : Nat) (hk : k ≤ c) (w : World) : (Instr.slice 69 (.slice (some ⟨g, 0, none⟩) n c) none (some (.int .i64 (k : Int))) none).run Try.prog w = .ok (.slice (some ⟨g, 0, none⟩) k c) w := by
  have h1 : (0 : Int) ≤ (k : Int) := by omega
  have h2 : (k : Int) ≤ (c : Int) := by omega
  simp [Instr.slice, go_sem, Try.underlying69, h1, h2, hk]
/-- a law's variables: the level, the inputs -/
structure QJ (w0 : World) (B : Nat) (l : Lv) (g n : Nat) (f : Nat → Inp) (w : World) : Prop where
  L : Blk w B #[.int .i64 l.id, .int .i64 l.ticks, .int .i64 l.sx, .int .i64 l.sy, .slice l.wa l.wn l.wc, .slice l.ga l.gn l.gc, .int .i64 l.flx, .int .i64 l.fly, .int .i64 l.fhx, .int .i64 l.fhy, .int .i64 l.bans]
  lv : LvAt w l
  xs : InsAt w (some ⟨g, 0, none⟩) n f
  bel : Below w0.heap.size w0 w
section
variable {w0 w w' : World} {B : Nat} {l : Lv} {g n : Nat} {f : Nat → Inp}
theorem QJ.mk0 {t : TypeId} (h : LvAt w l) (hx : InsAt w (some ⟨g, 0, none⟩) n f) (hb : Below w0.heap.size w0 w) : QJ w0 w.heap.size l g n f (w.alloc (.cells #[.int .i64 l.id, .int .i64 l.ticks, .int .i64 l.sx, .int .i64 l.sy, .slice l.wa l.wn l.wc, .slice l.ga l.gn l.gc, .int .i64 l.flx, .int .i64 l.fly, .int .i64 l.fhx, .int .i64 l.fhy, .int .i64 l.bans] t)) :=
  ⟨Blk.at rfl, h.keep ((Below.refl _ _).alloc (Nat.le_refl _) _), hx.keep ((Below.refl _ _).alloc (Nat.le_refl _) _), hb.alloc hb.size _⟩
theorem QJ.pass (h : QJ w0 B l g n f w) (hb : Below w.heap.size w w') : QJ w0 B l g n f w' := ⟨h.L.below hb h.L.lt, h.lv.keep hb, h.xs.keep hb, h.bel.trans (hb.mono h.bel.size)⟩
theorem QJ.alloc (h : QJ w0 B l g n f w) (o : Obj) : QJ w0 B l g n f (w.alloc o) := h.pass ((Below.refl _ _).alloc (Nat.le_refl _) o)
theorem QJ.drew (h : QJ w0 B l g n f w) : QJ w0 B l g n f w.drew := ⟨h.L, h.lv, h.xs, h.bel.drew⟩
end
theorem ins_in2 {w : World} {V : Nat} {s t : Int} (h : Blk w V #[.int .i64 s, .int .i64 0, .bool false, .int .i64 t, .int .i64 0, .bool false]) : InsAt w (some ⟨V, 0, none⟩) 2 (in2 s t) := by
  refine .inr ⟨V, 0, rfl, h.lt, fun i hi => ?_⟩
  have e : i = 0 ∨ i = 1 := by omega
  rcases e with rfl | rfl
  · exact ⟨h.cell 0, h.cell 1, h.cell 2⟩
  · exact ⟨h.cell 3, h.cell 4, h.cell 5⟩
theorem ins_inC {w : World} {V : Nat} {x p : Int} {b : Bool} (h : Blk w V #[.int .i64 x, .int .i64 p, .bool b]) : InsAt w (some ⟨V, 0, none⟩) 1 (inC ⟨x, p, b⟩) := ins_blk h
end Go.Proofs.Ytnhjalijnociaaa

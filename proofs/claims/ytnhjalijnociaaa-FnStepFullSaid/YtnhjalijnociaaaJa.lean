/- For the laws of a tick: states compared; a law's variables. -/
import Derived.Test.YtnhjalijnociaaaIh
import Derived.Test.YtnhjalijnociaaaDs
import Derived.Test.YtnhjalijnociaaaSp
set_option linter.unusedVariables false
set_option linter.unusedSimpArgs false
namespace Go.Proofs.Ytnhjalijnociaaa
open Go.RowKit

theorem run_eq9 (a0 a1 a2 a3 a4 a5 a6 : Int) (a7 a8 : Bool) (w : World) : (binOp .eql 31 (.agg #[.int .i64 a0, .int .i64 a1, .int .i64 a2, .int .i64 a3, .int .i64 a4, .int .i64 a5, .int .i64 a6, .bool a7, .bool a8]) (.agg #[.int .i64 a0, .int .i64 a1, .int .i64 a2, .int .i64 a3, .int .i64 a4, .int .i64 a5, .int .i64 a6, .bool a7, .bool a8])).run Try.prog w = .ok (.bool true) w := by
  simp [go_sem]
theorem run_ne9 (a0 a1 a2 a3 a4 a5 a6 : Int) (a7 a8 : Bool) (w : World) : (binOp .neq 31 (.agg #[.int .i64 a0, .int .i64 a1, .int .i64 a2, .int .i64 a3, .int .i64 a4, .int .i64 a5, .int .i64 a6, .bool a7, .bool a8]) (.agg #[.int .i64 a0, .int .i64 a1, .int .i64 a2, .int .i64 a3, .int .i64 a4, .int .i64 a5, .int .i64 a6, .bool a7, .bool a8])).run Try.prog w = .ok (.bool false) w := by
  simp [go_sem]
/-- a law's variables: the level, the state, the input -/
structure KJ (w0 : World) (B : Nat) (l : Lv) (s : St) (d p : Int) (b : Bool) (w : World) : Prop where
  L : Blk w B #[.int .i64 l.id, .int .i64 l.ticks, .int .i64 l.sx, .int .i64 l.sy, .slice l.wa l.wn l.wc, .slice l.ga l.gn l.gc, .int .i64 l.flx, .int .i64 l.fly, .int .i64 l.fhx, .int .i64 l.fhy, .int .i64 l.bans]
  S : Blk w (B + 1) #[.int .i64 s.tick, .int .i64 s.ax, .int .i64 s.ay, .int .i64 s.fx, .int .i64 s.fy, .int .i64 s.turn, .int .i64 s.gate, .bool s.done, .bool s.over]
  X : Blk w (B + 1 + 1) #[.int .i64 d, .int .i64 p, .bool b]
  lv : LvAt w l
  bel : Below w0.heap.size w0 w
section
variable {w0 w w' : World} {B : Nat} {l : Lv} {s : St} {d p : Int} {b : Bool}
theorem KJ.mk0 {t1 t2 t3 : TypeId} (h : LvAt w l) (hb : Below w0.heap.size w0 w) : KJ w0 w.heap.size l s d p b (((w.alloc (.cells #[.int .i64 l.id, .int .i64 l.ticks, .int .i64 l.sx, .int .i64 l.sy, .slice l.wa l.wn l.wc, .slice l.ga l.gn l.gc, .int .i64 l.flx, .int .i64 l.fly, .int .i64 l.fhx, .int .i64 l.fhy, .int .i64 l.bans] t1)).alloc (.cells #[.int .i64 s.tick, .int .i64 s.ax, .int .i64 s.ay, .int .i64 s.fx, .int .i64 s.fy, .int .i64 s.turn, .int .i64 s.gate, .bool s.done, .bool s.over] t2)).alloc (.cells #[.int .i64 d, .int .i64 p, .bool b] t3)) :=
  ⟨((Blk.at rfl).alloc _).alloc _, (Blk.at (by simp)).alloc _, Blk.at (by simp), ((h.keep ((Below.refl _ _).alloc (Nat.le_refl _) _)).keep ((Below.refl _ _).alloc (Nat.le_refl _) _)).keep ((Below.refl _ _).alloc (Nat.le_refl _) _), ((hb.alloc hb.size _).alloc (by have := hb.size; simp; omega) _).alloc (by have := hb.size; simp; omega) _⟩
theorem KJ.pass (h : KJ w0 B l s d p b w) (hb : Below w.heap.size w w') : KJ w0 B l s d p b w' := ⟨h.L.below hb h.L.lt, h.S.below hb h.S.lt, h.X.below hb h.X.lt, h.lv.keep hb, h.bel.trans (hb.mono h.bel.size)⟩
theorem KJ.alloc (h : KJ w0 B l s d p b w) (o : Obj) : KJ w0 B l s d p b (w.alloc o) := h.pass ((Below.refl _ _).alloc (Nat.le_refl _) o)
end
end Go.Proofs.Ytnhjalijnociaaa

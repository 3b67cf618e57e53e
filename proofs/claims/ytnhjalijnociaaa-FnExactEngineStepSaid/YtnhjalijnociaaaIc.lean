/- A tick of driving, by the program: the speed, the move. -/
import Derived.Test.YtnhjalijnociaaaIb
import Derived.Test.YtnhjalijnociaaaSp
import Derived.Test.YtnhjalijnociaaaQaw
import Derived.Test.YtnhjalijnociaaaQai
import Derived.Test.YtnhjalijnociaaaQaf
import Derived.Test.YtnhjalijnociaaaQad
set_option linter.unusedVariables false
set_option linter.unusedSimpArgs false
namespace Go.Proofs.Ytnhjalijnociaaa
open Go.RowKit

theorem Bx.ok_bx (b : Bx) : b.ok = bxB b.lx b.ly b.hx b.hy := by rw [Bx.ok]
/-- the tick's variables: the player, the level, the state, the result, the old state -/
structure TI (w0 : World) (l : Lv) (d p : Int) (o s : Array Value) (w : World) : Prop where
  D : Blk w w0.heap.size #[.int .i64 d, .int .i64 p]
  L : Blk w (w0.heap.size + 1) #[.int .i64 l.id, .int .i64 l.ticks, .int .i64 l.sx, .int .i64 l.sy, .slice l.wa l.wn l.wc, .slice l.ga l.gn l.gc, .int .i64 l.flx, .int .i64 l.fly, .int .i64 l.fhx, .int .i64 l.fhy, .int .i64 l.bans]
  S : Blk w (w0.heap.size + 1 + 1) s
  Z : Blk w (w0.heap.size + 1 + 1 + 1) #[.int .i64 0, .int .i64 0, .int .i64 0, .int .i64 0, .int .i64 0, .int .i64 0, .int .i64 0, .bool false, .bool false]
  O : Blk w (w0.heap.size + 1 + 1 + 1 + 1) o
  bel : Below w0.heap.size w0 w
section
variable {w0 w w' : World} {l : Lv} {d p : Int} {o s : Array Value}
theorem TI.pass (h : TI w0 l d p o s w) (hb : Below w.heap.size w w') : TI w0 l d p o s w' := ⟨h.D.below hb h.D.lt, h.L.below hb h.L.lt, h.S.below hb h.S.lt, h.Z.below hb h.Z.lt, h.O.below hb h.O.lt, h.bel.trans (hb.mono h.bel.size)⟩
theorem TI.drew (h : TI w0 l d p o s w) : TI w0 l d p o s w.drew := ⟨h.D, h.L, h.S, h.Z, h.O, h.bel.drew⟩
theorem TI.alloc (h : TI w0 l d p o s w) (x : Obj) : TI w0 l d p o s (w.alloc x) := h.pass ((Below.refl _ _).alloc (Nat.le_refl _) x)
theorem TI.set (h : TI w0 l d p o s w) (i : Nat) (v : Value) : TI w0 l d p o (s.setIfInBounds i v) (w.setCell ⟨w0.heap.size + 1 + 1, i, none⟩ v) := ⟨h.D.other (by simp only; omega) _, h.L.other (by simp only; omega) _, h.S.set i v, h.Z.other (by simp only; omega) _, h.O.other (by simp only; omega) _, h.bel.setCell (p := ⟨w0.heap.size + 1 + 1, i, none⟩) (by simp only; omega) _⟩
theorem TI.setO (h : TI w0 l d p o s w) (i : Nat) (v : Value) : TI w0 l d p (o.setIfInBounds i v) s (w.setCell ⟨w0.heap.size + 1 + 1 + 1 + 1, i, none⟩ v) := ⟨h.D.other (by simp only; omega) _, h.L.other (by simp only; omega) _, h.S.other (by simp only; omega) _, h.Z.other (by simp only; omega) _, h.O.set i v, h.bel.setCell (p := ⟨w0.heap.size + 1 + 1 + 1 + 1, i, none⟩) (by simp only; omega) _⟩
end
end Go.Proofs.Ytnhjalijnociaaa

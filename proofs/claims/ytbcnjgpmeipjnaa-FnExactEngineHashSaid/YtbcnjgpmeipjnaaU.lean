/- Worlds that differ in one old block alone, and the reader of drawn inputs: what it is, and what one step of it does. -/
import Derived.Test.YtbcnjgpmeipjnaaA
import Derived.Deep.QuietTactic
import Derived.BigQuiet
import Derived.Lib.Hide
import Derived.Deep.Light
import Derived.Test.YtbcnjgpmeipjnaaM
namespace Go.Proofs.Ytbcnjgpmeipjnaa
open Go.RowKit

/-- Below block number B the world w' is as w was, but for block R. -/
structure Up (R B : Nat) (w w' : World) : Prop where
  os : w'.os = w.os
  tape : w'.tape = w.tape
  output : w'.output = w.output
  size : w.heap.size ≤ w'.heap.size
  block : ∀ k, k < B → k ≠ R → w'.heap[k]? = w.heap[k]?

theorem Up.refl (R B : Nat) (w : World) : Up R B w w := ⟨rfl, rfl, rfl, Nat.le_refl _, fun _ _ _ => rfl⟩
theorem Up.trans {R B : Nat} {a b c : World} (h : Up R B a b) (k : Up R B b c) : Up R B a c :=
  ⟨k.os.trans h.os, k.tape.trans h.tape, k.output.trans h.output, Nat.le_trans h.size k.size, fun i hi hr => (k.block i hi hr).trans (h.block i hi hr)⟩
theorem Up.mono {R B B' : Nat} {w w' : World} (h : Up R B w w') (hB : B' ≤ B) : Up R B' w w' := ⟨h.os, h.tape, h.output, h.size, fun k hk => h.block k (Nat.lt_of_lt_of_le hk hB)⟩
theorem Up.of_below {R B : Nat} {w w' : World} (h : Below B w w') : Up R B w w' := ⟨h.os, h.tape, h.output, h.size, fun k hk _ => h.block k hk⟩
theorem Up.below {R B : Nat} {w w' : World} (h : Up R B w w') (hR : B ≤ R) : Below B w w' := ⟨h.os, h.tape, h.output, h.size, fun k hk => h.block k hk (by omega)⟩
theorem Up.drew {R B : Nat} {a w : World} (h : Up R B a w) : Up R B a w.drew := ⟨h.os, h.tape, h.output, h.size, h.block⟩
theorem Up.drewN {R B : Nat} {a w : World} (h : Up R B a w) (n : Nat) : Up R B a (w.drewN n) := ⟨h.os, h.tape, h.output, h.size, h.block⟩
theorem Up.alloc {R B : Nat} {a w : World} (h : Up R B a w) (hB : B ≤ w.heap.size) (o : Obj) : Up R B a (w.alloc o) :=
  h.trans (Up.of_below ((Below.refl _ _).alloc hB o))
theorem Up.setCell {R B : Nat} {a w : World} (h : Up R B a w) {p : Addr} (hp : p.block = R ∨ B ≤ p.block) (u : Value) : Up R B a (w.setCell p u) :=
  h.trans ⟨rfl, rfl, rfl, by simp [World.setCell], fun k hk hr => Below.heap_setCell _ _ _ _ (by omega)⟩
theorem Up.cell {R B : Nat} {w w' : World} (h : Up R B w w') {p : Addr} (hp : p.block < B) (hr : p.block ≠ R) : w'.cell? p = w.cell? p := World.cell?_of_block (w := w) (h.block p.block hp hr)
theorem Up.frozen {R B : Nat} {w w' : World} (h : Up R B w w') {p : Addr} (hp : p.block < B) (hr : p.block ≠ R) : w'.frozen? p = w.frozen? p := World.frozen?_of_block (w := w) (h.block p.block hp hr)
theorem upstep {R B : Nat} {w W w1 : World} (h : Up R B w W) (hle : B ≤ W.heap.size) (hb : Up R W.heap.size W w1) : Up R B w w1 := h.trans (hb.mono hle)
theorem rcell {R : Nat} {W w1 : World} (hb : Up R W.heap.size W w1) : (∀ b o, b < W.heap.size → b ≠ R → w1.cell? ⟨b, o, none⟩ = W.cell? ⟨b, o, none⟩) ∧ (∀ b o, b < W.heap.size → b ≠ R → w1.frozen? ⟨b, o, none⟩ = W.frozen? ⟨b, o, none⟩) :=
  ⟨fun b o h hr => hb.cell (p := ⟨b, o, none⟩) h hr, fun b o h hr => hb.frozen (p := ⟨b, o, none⟩) h hr⟩

/-- The reader at block R has read k times: its bytes lie in older memory. -/
def Rd (w : World) (R k : Nat) : Prop :=
  ∃ (a : Option Addr) (len cap : Nat) (zs : List Int), R < w.heap.size ∧ len ≤ 2000 ∧ len ≤ cap ∧
    w.cell? ⟨R, 0, none⟩ = some (.slice a len cap) ∧ w.cell? ⟨R, 1, none⟩ = some (.int .i64 k) ∧ w.frozen? ⟨R, 1, none⟩ = false ∧
    (∀ i : Nat, 0 ≤ zs.getD i 0 ∧ zs.getD i 0 ≤ 255) ∧
    (len = 0 ∨ ∃ b off, a = some ⟨b, off, none⟩ ∧ b < R ∧ ∀ i, i < len → w.cell? ⟨b, off + i, none⟩ = some (.int .u8 (zs.getD i 0)))

theorem Rd.lt {w : World} {R k : Nat} (h : Rd w R k) : R < w.heap.size := by
  obtain ⟨_, _, _, _, h, _⟩ := h
  exact h
theorem Rd.keep {w w' : World} {R k : Nat} (h : Rd w R k) (hb : Below (R + 1) w w') : Rd w' R k := by
  obtain ⟨a, len, cap, zs, h1, h2, h3, h4, h5, h6, h7, h8⟩ := h
  refine ⟨a, len, cap, zs, Nat.lt_of_lt_of_le h1 hb.size, h2, h3, (hb.cell (by simp)).trans h4, (hb.cell (by simp)).trans h5, (hb.frozen (by simp)).trans h6, h7, ?_⟩
  rcases h8 with h8 | ⟨b, off, ha, hlt, hc⟩
  · exact .inl h8
  · exact .inr ⟨b, off, ha, hlt, fun i hi => (hb.cell (by simp; omega)).trans (hc i hi)⟩

theorem Rd.step {w : World} {R k : Nat} (h : Rd w R k) : Rd (w.setCell ⟨R, 1, none⟩ (.int .i64 ((k : Int) + 1))) R (k + 1) := by
  obtain ⟨a, len, cap, zs, h1, h2, h3, h4, h5, h6, h7, h8⟩ := h
  refine ⟨a, len, cap, zs, by simpa using h1, h2, h3, ?_, ?_, ?_, h7, ?_⟩
  · exact (World.cell?_setCell_other w ⟨R, 1, none⟩ ⟨R, 0, none⟩ _ (by simp)).trans h4
  · exact World.cell?_setCell_same' _ _ _ (by rw [h5]; rfl)
  · rw [World.frozen?_setCell]; exact h6
  · rcases h8 with h8 | ⟨b, off, ha, hlt, hc⟩
    · exact .inl h8
    · exact .inr ⟨b, off, ha, hlt, fun i hi => (World.cell?_setCell_other w ⟨R, 1, none⟩ ⟨b, off + i, none⟩ _ (by intro e; injection e; omega)).trans (hc i hi)⟩
theorem Up.step {w : World} {R : Nat} (v : Value) : Up R w.heap.size w (w.setCell ⟨R, 1, none⟩ v) := (Up.refl _ _ _).setCell (p := ⟨R, 1, none⟩) (.inl rfl) _
theorem Rd.drewN {w : World} {R k : Nat} (h : Rd w R k) (n : Nat) : Rd (w.drewN n) R k := h

end Go.Proofs.Ytbcnjgpmeipjnaa

/- Blocks of cells as wholes: what a walk keeps of a struct between two calls. -/
import Derived.Test.YtgiadgbfeldheaaU
import Derived.Laws.Rows
import Derived.Laws.Tables
import Derived.Deep.Cut
set_option linter.unusedVariables false
namespace Go.Proofs.Ytgiadgbfeldheaa
open Go.RowKit

/-- a block holds these cells -/
def Blk (w : World) (b : Nat) (cs : Array Value) : Prop := ∃ t, w.heap[b]? = some (.cells cs t (0, 0))
theorem Blk.cell {w : World} {b : Nat} {cs : Array Value} (h : Blk w b cs) (o : Nat) : w.cell? ⟨b, o, none⟩ = cs[o]? := by
  obtain ⟨t, h⟩ := h
  exact cell_of_row w b o cs t (0, 0) h
theorem Blk.frozen {w : World} {b : Nat} {cs : Array Value} (h : Blk w b cs) (o : Nat) : w.frozen? ⟨b, o, none⟩ = false := by
  obtain ⟨t, h⟩ := h
  exact frozen_of_row w b o cs t h
theorem Blk.lt {w : World} {b : Nat} {cs : Array Value} (h : Blk w b cs) : b < w.heap.size := by
  obtain ⟨t, h⟩ := h
  exact (Array.getElem?_eq_some_iff.1 h).1
theorem Blk.new (w : World) (cs : Array Value) (t : TypeId) : Blk (w.alloc (.cells cs t)) w.heap.size cs := ⟨t, heap_alloc_new w _⟩
theorem Blk.at {w : World} {cs : Array Value} {t : TypeId} {b : Nat} (hb : w.heap.size = b) : Blk (w.alloc (.cells cs t)) b cs := by
  subst hb
  exact Blk.new w cs t
theorem Blk.keep {w w' : World} {b : Nat} {cs : Array Value} (h : Blk w b cs) (e : w'.heap[b]? = w.heap[b]?) : Blk w' b cs := by
  obtain ⟨t, h⟩ := h
  exact ⟨t, e.trans h⟩
theorem Blk.below {w w' : World} {b B : Nat} {cs : Array Value} (h : Blk w b cs) (hb : Below B w w') (hlt : b < B) : Blk w' b cs := h.keep (hb.block b hlt)
theorem Blk.up {w w' : World} {b B R : Nat} {cs : Array Value} (h : Blk w b cs) (hb : Up R B w w') (hlt : b < B) (hne : b ≠ R) : Blk w' b cs := h.keep (hb.block b hlt hne)
theorem Blk.alloc {w : World} {b : Nat} {cs : Array Value} (h : Blk w b cs) (o : Obj) : Blk (w.alloc o) b cs := h.below ((Below.refl w.heap.size w).alloc (Nat.le_refl _) o) h.lt
theorem Blk.other {w : World} {b : Nat} {cs : Array Value} (h : Blk w b cs) {p : Addr} (hne : b ≠ p.block) (v : Value) : Blk (w.setCell p v) b cs := h.keep (heap_setCell_other w p b v hne)
theorem Blk.set {w : World} {b : Nat} {cs : Array Value} (h : Blk w b cs) (i : Nat) (v : Value) : Blk (w.setCell ⟨b, i, none⟩ v) b (cs.setIfInBounds i v) := by
  obtain ⟨t, h⟩ := h
  exact ⟨t, heap_setCell_same w b i cs t v h⟩
theorem Below.setRow {B : Nat} {a w : World} (h : Below B a w) {g : Nat} (hB : B ≤ g) (c : Array Value) : Below B a (w.setRow g c) :=
  h.trans ⟨rfl, rfl, rfl, by simp, fun k hk => setRow_other w g k c (by omega)⟩
theorem Up.setRow {R B : Nat} {a w : World} (h : Up R B a w) {g : Nat} (hB : B ≤ g) (c : Array Value) : Up R B a (w.setRow g c) :=
  h.trans (Up.of_below (Below.setRow (Below.refl B w) hB c))
theorem Blk.row {w : World} {b : Nat} {cs : Array Value} (h : Blk w b cs) (c : Array Value) : Blk (w.setRow b c) b c := by
  obtain ⟨t, h⟩ := h
  exact ⟨t, setRow_heap w b cs c t _ h⟩
theorem Blk.rowOther {w : World} {b : Nat} {cs : Array Value} (h : Blk w b cs) {g : Nat} (hne : b ≠ g) (c : Array Value) : Blk (w.setRow g c) b cs := h.keep (setRow_other w g b c hne)
theorem Blk.c2 {w : World} {b : Nat} {a0 a1 : Value} (h : Blk w b #[a0, a1]) : w.cell? ⟨b, 0, none⟩ = some a0 ∧ w.cell? ⟨b, 1, none⟩ = some a1 := ⟨h.cell 0, h.cell 1⟩
theorem Blk.c4 {w : World} {b : Nat} {a0 a1 a2 a3 : Value} (h : Blk w b #[a0, a1, a2, a3]) : w.cell? ⟨b, 0, none⟩ = some a0 ∧ w.cell? ⟨b, 1, none⟩ = some a1 ∧ w.cell? ⟨b, 2, none⟩ = some a2 ∧ w.cell? ⟨b, 3, none⟩ = some a3 := ⟨h.cell 0, h.cell 1, h.cell 2, h.cell 3⟩
theorem Blk.c9 {w : World} {b : Nat} {a0 a1 a2 a3 a4 a5 a6 a7 a8 : Value} (h : Blk w b #[a0, a1, a2, a3, a4, a5, a6, a7, a8]) : w.cell? ⟨b, 0, none⟩ = some a0 ∧ w.cell? ⟨b, 1, none⟩ = some a1 ∧ w.cell? ⟨b, 2, none⟩ = some a2 ∧ w.cell? ⟨b, 3, none⟩ = some a3 ∧ w.cell? ⟨b, 4, none⟩ = some a4 ∧ w.cell? ⟨b, 5, none⟩ = some a5 ∧ w.cell? ⟨b, 6, none⟩ = some a6 ∧ w.cell? ⟨b, 7, none⟩ = some a7 ∧ w.cell? ⟨b, 8, none⟩ = some a8 := ⟨h.cell 0, h.cell 1, h.cell 2, h.cell 3, h.cell 4, h.cell 5, h.cell 6, h.cell 7, h.cell 8⟩
theorem Blk.c11 {w : World} {b : Nat} {a0 a1 a2 a3 a4 a5 a6 a7 a8 a9 a10 : Value} (h : Blk w b #[a0, a1, a2, a3, a4, a5, a6, a7, a8, a9, a10]) : w.cell? ⟨b, 0, none⟩ = some a0 ∧ w.cell? ⟨b, 1, none⟩ = some a1 ∧ w.cell? ⟨b, 2, none⟩ = some a2 ∧ w.cell? ⟨b, 3, none⟩ = some a3 ∧ w.cell? ⟨b, 4, none⟩ = some a4 ∧ w.cell? ⟨b, 5, none⟩ = some a5 ∧ w.cell? ⟨b, 6, none⟩ = some a6 ∧ w.cell? ⟨b, 7, none⟩ = some a7 ∧ w.cell? ⟨b, 8, none⟩ = some a8 ∧ w.cell? ⟨b, 9, none⟩ = some a9 ∧ w.cell? ⟨b, 10, none⟩ = some a10 := ⟨h.cell 0, h.cell 1, h.cell 2, h.cell 3, h.cell 4, h.cell 5, h.cell 6, h.cell 7, h.cell 8, h.cell 9, h.cell 10⟩
theorem Blk.s2_0 {w : World} {b : Nat} {a0 a1 : Value} (h : Blk w b #[a0, a1]) (v : Value) : Blk (w.setCell ⟨b, 0, none⟩ v) b #[v, a1] := h.set 0 v
theorem Blk.s2_1 {w : World} {b : Nat} {a0 a1 : Value} (h : Blk w b #[a0, a1]) (v : Value) : Blk (w.setCell ⟨b, 1, none⟩ v) b #[a0, v] := h.set 1 v
theorem Blk.s4_0 {w : World} {b : Nat} {a0 a1 a2 a3 : Value} (h : Blk w b #[a0, a1, a2, a3]) (v : Value) : Blk (w.setCell ⟨b, 0, none⟩ v) b #[v, a1, a2, a3] := h.set 0 v
theorem Blk.s4_1 {w : World} {b : Nat} {a0 a1 a2 a3 : Value} (h : Blk w b #[a0, a1, a2, a3]) (v : Value) : Blk (w.setCell ⟨b, 1, none⟩ v) b #[a0, v, a2, a3] := h.set 1 v
theorem Blk.s4_2 {w : World} {b : Nat} {a0 a1 a2 a3 : Value} (h : Blk w b #[a0, a1, a2, a3]) (v : Value) : Blk (w.setCell ⟨b, 2, none⟩ v) b #[a0, a1, v, a3] := h.set 2 v
theorem Blk.s4_3 {w : World} {b : Nat} {a0 a1 a2 a3 : Value} (h : Blk w b #[a0, a1, a2, a3]) (v : Value) : Blk (w.setCell ⟨b, 3, none⟩ v) b #[a0, a1, a2, v] := h.set 3 v
theorem Blk.s9_0 {w : World} {b : Nat} {a0 a1 a2 a3 a4 a5 a6 a7 a8 : Value} (h : Blk w b #[a0, a1, a2, a3, a4, a5, a6, a7, a8]) (v : Value) : Blk (w.setCell ⟨b, 0, none⟩ v) b #[v, a1, a2, a3, a4, a5, a6, a7, a8] := h.set 0 v
theorem Blk.s9_1 {w : World} {b : Nat} {a0 a1 a2 a3 a4 a5 a6 a7 a8 : Value} (h : Blk w b #[a0, a1, a2, a3, a4, a5, a6, a7, a8]) (v : Value) : Blk (w.setCell ⟨b, 1, none⟩ v) b #[a0, v, a2, a3, a4, a5, a6, a7, a8] := h.set 1 v
theorem Blk.s9_2 {w : World} {b : Nat} {a0 a1 a2 a3 a4 a5 a6 a7 a8 : Value} (h : Blk w b #[a0, a1, a2, a3, a4, a5, a6, a7, a8]) (v : Value) : Blk (w.setCell ⟨b, 2, none⟩ v) b #[a0, a1, v, a3, a4, a5, a6, a7, a8] := h.set 2 v
theorem Blk.s9_3 {w : World} {b : Nat} {a0 a1 a2 a3 a4 a5 a6 a7 a8 : Value} (h : Blk w b #[a0, a1, a2, a3, a4, a5, a6, a7, a8]) (v : Value) : Blk (w.setCell ⟨b, 3, none⟩ v) b #[a0, a1, a2, v, a4, a5, a6, a7, a8] := h.set 3 v
theorem Blk.s9_4 {w : World} {b : Nat} {a0 a1 a2 a3 a4 a5 a6 a7 a8 : Value} (h : Blk w b #[a0, a1, a2, a3, a4, a5, a6, a7, a8]) (v : Value) : Blk (w.setCell ⟨b, 4, none⟩ v) b #[a0, a1, a2, a3, v, a5, a6, a7, a8] := h.set 4 v
theorem Blk.s9_5 {w : World} {b : Nat} {a0 a1 a2 a3 a4 a5 a6 a7 a8 : Value} (h : Blk w b #[a0, a1, a2, a3, a4, a5, a6, a7, a8]) (v : Value) : Blk (w.setCell ⟨b, 5, none⟩ v) b #[a0, a1, a2, a3, a4, v, a6, a7, a8] := h.set 5 v
theorem Blk.s9_6 {w : World} {b : Nat} {a0 a1 a2 a3 a4 a5 a6 a7 a8 : Value} (h : Blk w b #[a0, a1, a2, a3, a4, a5, a6, a7, a8]) (v : Value) : Blk (w.setCell ⟨b, 6, none⟩ v) b #[a0, a1, a2, a3, a4, a5, v, a7, a8] := h.set 6 v
theorem Blk.s9_7 {w : World} {b : Nat} {a0 a1 a2 a3 a4 a5 a6 a7 a8 : Value} (h : Blk w b #[a0, a1, a2, a3, a4, a5, a6, a7, a8]) (v : Value) : Blk (w.setCell ⟨b, 7, none⟩ v) b #[a0, a1, a2, a3, a4, a5, a6, v, a8] := h.set 7 v
theorem Blk.s9_8 {w : World} {b : Nat} {a0 a1 a2 a3 a4 a5 a6 a7 a8 : Value} (h : Blk w b #[a0, a1, a2, a3, a4, a5, a6, a7, a8]) (v : Value) : Blk (w.setCell ⟨b, 8, none⟩ v) b #[a0, a1, a2, a3, a4, a5, a6, a7, v] := h.set 8 v
theorem Blk.s11_0 {w : World} {b : Nat} {a0 a1 a2 a3 a4 a5 a6 a7 a8 a9 a10 : Value} (h : Blk w b #[a0, a1, a2, a3, a4, a5, a6, a7, a8, a9, a10]) (v : Value) : Blk (w.setCell ⟨b, 0, none⟩ v) b #[v, a1, a2, a3, a4, a5, a6, a7, a8, a9, a10] := h.set 0 v
theorem Blk.s11_1 {w : World} {b : Nat} {a0 a1 a2 a3 a4 a5 a6 a7 a8 a9 a10 : Value} (h : Blk w b #[a0, a1, a2, a3, a4, a5, a6, a7, a8, a9, a10]) (v : Value) : Blk (w.setCell ⟨b, 1, none⟩ v) b #[a0, v, a2, a3, a4, a5, a6, a7, a8, a9, a10] := h.set 1 v
theorem Blk.s11_2 {w : World} {b : Nat} {a0 a1 a2 a3 a4 a5 a6 a7 a8 a9 a10 : Value} (h : Blk w b #[a0, a1, a2, a3, a4, a5, a6, a7, a8, a9, a10]) (v : Value) : Blk (w.setCell ⟨b, 2, none⟩ v) b #[a0, a1, v, a3, a4, a5, a6, a7, a8, a9, a10] := h.set 2 v
theorem Blk.s11_3 {w : World} {b : Nat} {a0 a1 a2 a3 a4 a5 a6 a7 a8 a9 a10 : Value} (h : Blk w b #[a0, a1, a2, a3, a4, a5, a6, a7, a8, a9, a10]) (v : Value) : Blk (w.setCell ⟨b, 3, none⟩ v) b #[a0, a1, a2, v, a4, a5, a6, a7, a8, a9, a10] := h.set 3 v
theorem Blk.s11_4 {w : World} {b : Nat} {a0 a1 a2 a3 a4 a5 a6 a7 a8 a9 a10 : Value} (h : Blk w b #[a0, a1, a2, a3, a4, a5, a6, a7, a8, a9, a10]) (v : Value) : Blk (w.setCell ⟨b, 4, none⟩ v) b #[a0, a1, a2, a3, v, a5, a6, a7, a8, a9, a10] := h.set 4 v
theorem Blk.s11_5 {w : World} {b : Nat} {a0 a1 a2 a3 a4 a5 a6 a7 a8 a9 a10 : Value} (h : Blk w b #[a0, a1, a2, a3, a4, a5, a6, a7, a8, a9, a10]) (v : Value) : Blk (w.setCell ⟨b, 5, none⟩ v) b #[a0, a1, a2, a3, a4, v, a6, a7, a8, a9, a10] := h.set 5 v
theorem Blk.s11_6 {w : World} {b : Nat} {a0 a1 a2 a3 a4 a5 a6 a7 a8 a9 a10 : Value} (h : Blk w b #[a0, a1, a2, a3, a4, a5, a6, a7, a8, a9, a10]) (v : Value) : Blk (w.setCell ⟨b, 6, none⟩ v) b #[a0, a1, a2, a3, a4, a5, v, a7, a8, a9, a10] := h.set 6 v
theorem Blk.s11_7 {w : World} {b : Nat} {a0 a1 a2 a3 a4 a5 a6 a7 a8 a9 a10 : Value} (h : Blk w b #[a0, a1, a2, a3, a4, a5, a6, a7, a8, a9, a10]) (v : Value) : Blk (w.setCell ⟨b, 7, none⟩ v) b #[a0, a1, a2, a3, a4, a5, a6, v, a8, a9, a10] := h.set 7 v
theorem Blk.s11_8 {w : World} {b : Nat} {a0 a1 a2 a3 a4 a5 a6 a7 a8 a9 a10 : Value} (h : Blk w b #[a0, a1, a2, a3, a4, a5, a6, a7, a8, a9, a10]) (v : Value) : Blk (w.setCell ⟨b, 8, none⟩ v) b #[a0, a1, a2, a3, a4, a5, a6, a7, v, a9, a10] := h.set 8 v
theorem Blk.s11_9 {w : World} {b : Nat} {a0 a1 a2 a3 a4 a5 a6 a7 a8 a9 a10 : Value} (h : Blk w b #[a0, a1, a2, a3, a4, a5, a6, a7, a8, a9, a10]) (v : Value) : Blk (w.setCell ⟨b, 9, none⟩ v) b #[a0, a1, a2, a3, a4, a5, a6, a7, a8, v, a10] := h.set 9 v
theorem Blk.s11_10 {w : World} {b : Nat} {a0 a1 a2 a3 a4 a5 a6 a7 a8 a9 a10 : Value} (h : Blk w b #[a0, a1, a2, a3, a4, a5, a6, a7, a8, a9, a10]) (v : Value) : Blk (w.setCell ⟨b, 10, none⟩ v) b #[a0, a1, a2, a3, a4, a5, a6, a7, a8, a9, v] := h.set 10 v
theorem ld_row {P : Program} {ops : Array Oper} {rest : List Oper} {dst : Option Tmp} {ty t : TypeId} {x : Operand} {p : String} {f : Array Edge} {a : Act} {w : World} {Q : Exit → Act → World → Prop} {g : Nat} {cs : Array Value} {d : TypeDesc}
    (hx : a.eval x = .pointer (some ⟨g, 0, none⟩)) (hb : Blk w g cs) (hu : P.underlying ty = some d) (hd : (match d with | .struct _ | .array _ _ => true | _ => false) = true) (hi : (P.info? ty).map (·.size) = some cs.size)
    (h : wpList P ops Q rest (a.put dst (.agg cs)) w) : wpList P ops Q ({ dst := dst, op := .load ty x, type := t, pos := p, after := f, guard := none } :: rest) a w := by
  obtain ⟨t0, hg⟩ := hb
  exact wpList_load_row rfl ty x rfl g hx t0 cs (0, 0) d hg hu hd hi h
theorem st_row {P : Program} {ops : Array Oper} {rest : List Oper} {dst : Option Tmp} {ty t : TypeId} {x y : Operand} {p : String} {f : Array Edge} {a : Act} {w : World} {Q : Exit → Act → World → Prop} {g : Nat} {cells old : Array Value}
    (hx : a.eval x = .pointer (some ⟨g, 0, none⟩)) (hy : a.eval y = .agg cells) (hb : Blk w g old) (hi : (P.info? ty).map (·.size) = some cells.size) (hold : old.size = cells.size) (h1 : cells.all (·.oneCell') = true)
    (h : wpList P ops Q rest (a.put dst undef) (w.setRow g cells)) : wpList P ops Q ({ dst := dst, op := .store ty x y, type := t, pos := p, after := f, guard := none } :: rest) a w := by
  obtain ⟨t0, hg⟩ := hb
  exact wpList_store_row rfl ty x y rfl g cells hx hy t0 old hg hi hold h1 h
theorem res_row {P : Program} {fn : Func} {p : Tmp} {ty : TypeId} {tmps : Array Value} {w : World} {g : Nat} {cs : Array Value} {d : TypeDesc} (h : fn.results = #[.cell p ty]) (hp : tmps.getD p undef = .pointer (some ⟨g, 0, none⟩)) (hb : Blk w g cs)
    (hu : P.underlying ty = some d) (hd : (match d with | .struct _ | .array _ _ => true | _ => false) = true) (hi : (P.info? ty).map (·.size) = some cs.size) : (results fn tmps).run P w = .ok (.agg cs) w := by
  obtain ⟨t0, hg⟩ := hb
  exact results_cell_row h tmps w g t0 cs (0, 0) d hp hg hu hd hi
theorem wp_copy {P : Program} {id : Nat} {ty t1 t2 : TypeId} {d : Nat} {x y : Operand} {p1 p2 : String} {f1 f2 : Array Edge} {a : Act} {w : World} {Q : Exit → Act → World → Prop} {g k : Nat} {cs old : Array Value} {ds : TypeDesc}
    (hx : a.eval x = .pointer (some ⟨g, 0, none⟩)) (hb : Blk w g cs) (hu : P.underlying ty = some ds) (hd : (match ds with | .struct _ | .array _ _ => true | _ => false) = true) (hi : (P.info? ty).map (·.size) = some cs.size)
    (hy : (a.put (some d) (.agg cs)).eval y = .pointer (some ⟨k, 0, none⟩)) (hz : (a.put (some d) (.agg cs)).eval (.tmp d) = .agg cs) (hb2 : Blk w k old) (hold : old.size = cs.size) (h1 : cs.all (·.oneCell') = true)
    (h : Q .normal ((a.put (some d) (.agg cs)).put none undef) (w.setRow k cs)) :
    (Code.region id #[{ dst := some d, op := .load ty x, type := t1, pos := p1, after := f1, guard := none }, { dst := none, op := .store ty y (.tmp d), type := t2, pos := p2, after := f2, guard := none }] false).wp P Q a w :=
  wp_region_lit (ld_row hx hb hu hd hi (st_row hy hz hb2 hi hold h1 (wpList_nil h)))
theorem run_load_blk {P : Program} (ty : TypeId) {g : Nat} {cs : Array Value} {d : TypeDesc} (hu : P.underlying ty = some d) (hd : (match d with | .struct _ | .array _ _ => true | _ => false) = true) (hi : (P.info? ty).map (·.size) = some cs.size) {w : World} (hb : Blk w g cs) :
    (Instr.loadAt ty (.pointer (some ⟨g, 0, none⟩))).run P w = .ok (.agg cs) w := by
  obtain ⟨t, hg⟩ := hb
  simp only [Instr.loadAt, Instr.sureAddr, Sem.run_bind, Sem.run_pure, Result.andThen_ok, run_loadVar_row w g t ty cs (0, 0) d hg hu hd hi]
end Go.Proofs.Ytgiadgbfeldheaa

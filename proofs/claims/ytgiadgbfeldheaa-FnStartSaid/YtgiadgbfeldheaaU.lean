/- Worlds that differ in one old block alone, and the reader of drawn inputs: what it is, and what one step of it does. -/
import Derived.Test.YtgiadgbfeldheaaA
import Derived.Deep.QuietTactic
import Derived.BigQuiet
import Derived.Lib.Hide
import Derived.Deep.Light
import Derived.Test.YtgiadgbfeldheaaM
namespace Go.Proofs.Ytgiadgbfeldheaa
open Go.RowKit

/-- Below block number B the world w' is as w was, but for block R. -/
structure Up (R B : Nat) (w w' : World) : Prop where
  os : w'.os = w.os
  tape : w'.tape = w.tape
  output : w'.output = w.output
  size : w.heap.size ≤ w'.heap.size
  block : ∀ k, k < B → k ≠ R → w'.heap[k]? = w.heap[k]?

theorem Up.refl (R B : Nat) (w : World) : Up R B w w := ⟨rfl, rfl, rfl, Nat.le_refl _, fun _ _ _ => rfl⟩
theorem Up.trans {R B : Nat} {a b c : World} (h : Up R B a b) (k : Up R B b c) : Up R B a c :=
  ⟨k.os.trans h.os, k.tape.trans h.tape, k.output.trans h.output, Nat.le_trans h.size k.size, fun i hi hr => (k.block i hi hr).trans (h.block i hi hr)⟩
theorem Up.mono {R B B' : Nat} {w w' : World} (h : Up R B w w') (hB : B' ≤ B) : Up R B' w w' := ⟨h.os, h.tape, h.output, h.size, fun k hk => h.block k (Nat.lt_of_lt_of_le hk hB)⟩
theorem Up.of_below {R B : Nat} {w w' : World} (h : Below B w w') : Up R B w w' := ⟨h.os, h.tape, h.output, h.size, fun k hk _ => h.block k hk⟩
theorem Up.below {R B : Nat} {w w' : World} (h : Up R B w w') (hR : B ≤ R) : Below B w w' := ⟨h.os, h.tape, h.output, h.size, fun k hk => h.block k hk (by omega)⟩
theorem Up.drew {R B : Nat} {a w : World} (h : Up R B a w) : Up R B a w.drew := ⟨h.os, h.tape, h.output, h.size, h.block⟩
theorem Up.drewN {R B : Nat} {a w : World} (h : Up R B a w) (n : Nat) : Up R B a (w.drewN n) := ⟨h.os, h.tape, h.output, h.size, h.block⟩
theorem Up.alloc {R B : Nat} {a w : World} (h : Up R B a w) (hB : B ≤ w.heap.size) (o : Obj) : Up R B a (w.alloc o) :=
  h.trans (Up.of_below ((Below.refl _ _).alloc hB o))
theorem Up.setCell {R B : Nat} {a w : World} (h : Up R B a w) {p : Addr} (hp : p.block = R ∨ B ≤ p.block) (u : Value) : Up R B a (w.setCell p u) :=
  h.trans ⟨rfl, rfl, rfl, by simp [World.setCell], fun k hk hr => Below.heap_setCell _ _ _ _ (by omega)⟩
theorem Up.cell {R B : Nat} {w w' : World} (h : Up R B w w') {p : Addr} (hp : p.block < B) (hr : p.block ≠ R) : w'.cell? p = w.cell? p := World.cell?_of_block (w := w) (h.block p.block hp hr)
theorem Up.frozen {R B : Nat} {w w' : World} (h : Up R B w w') {p : Addr} (hp : p.block < B) (hr : p.block ≠ R) : w'.frozen? p = w.frozen? p := World.frozen?_of_block (w := w) (h.block p.block hp hr)
theorem upstep {R B : Nat} {w W w1 : World} (h : Up R B w W) (hle : B ≤ W.heap.size) (hb : Up R W.heap.size W w1) : Up R B w w1 := h.trans (hb.mono hle)
theorem rcell {R : Nat} {W w1 : World} (hb : Up R W.heap.size W w1) : (∀ b o, b < W.heap.size → b ≠ R → w1.cell? ⟨b, o, none⟩ = W.cell? ⟨b, o, none⟩) ∧ (∀ b o, b < W.heap.size → b ≠ R → w1.frozen? ⟨b, o, none⟩ = W.frozen? ⟨b, o, none⟩) :=
  ⟨fun b o h hr => hb.cell (p := ⟨b, o, none⟩) h hr, fun b o h hr => hb.frozen (p := ⟨b, o, none⟩) h hr⟩

/-- The reader at block R has read k times: its bytes lie in older memory. -/
def Rd (w : World) (R k : Nat) : Prop :=
  ∃ (a : Option Addr) (len cap : Nat) (zs : List Int), R < w.heap.size ∧ len ≤ 2000 ∧ len ≤ cap ∧
    w.cell? ⟨R, 0, none⟩ = some (.slice a len cap) ∧ w.cell? ⟨R, 1, none⟩ = some (.int .i64 k) ∧ w.frozen? ⟨R, 1, none⟩ = false ∧
    (∀ i : Nat, 0 ≤ zs.getD i 0 ∧ zs.getD i 0 ≤ 255) ∧
    (len = 0 ∨ ∃ b off, a = some ⟨b, off, none⟩ ∧ b < R ∧ ∀ i, i < len → w.cell? ⟨b, off + i, none⟩ = some (.int .u8 (zs.getD i 0)))

theorem Rd.lt {w : World} {R k : Nat} (h : Rd w R k) : R < w.heap.size := by
  obtain ⟨_, _, _, _, h, _⟩ := h
  exact h
theorem Rd.keep {w w' : World} {R k : Nat} (h : Rd w R k) (hb : Below (R + 1) w w') : Rd w' R k := by
  obtain ⟨a, len, cap, zs, h1, h2, h3, h4, h5, h6, h7, h8⟩ := h
  refine ⟨a, len, cap, zs, Nat.lt_of_lt_of_le h1 hb.size, h2, h3, (hb.cell (by simp)).trans h4, (hb.cell (by simp)).trans h5, (hb.frozen (by simp)).trans h6, h7, ?_⟩
  rcases h8 with h8 | ⟨b, off, ha, hlt, hc⟩
  · exact .inl h8
  · exact .inr ⟨b, off, ha, hlt, fun i hi => (hb.cell (by simp; omega)).trans (hc i hi)⟩

theorem Rd.step {w : World} {R k : Nat} (h : Rd w R k) : Rd (w.setCell ⟨R, 1, none⟩ (.int .i64 ((k : Int) + 1))) R (k + 1) := by
  obtain ⟨a, len, cap, zs, h1, h2, h3, h4, h5, h6, h7, h8⟩ := h
  refine ⟨a, len, cap, zs, by simpa using h1, h2, h3, ?_, ?_, ?_, h7, ?_⟩
  · exact (World.cell?_setCell_other w ⟨R, 1, none⟩ ⟨R, 0, none⟩ _ (by simp)).trans h4
  · exact World.cell?_setCell_same' _ _ _ (by rw [h5]; rfl)
  · rw [World.frozen?_setCell]; exact h6
  · rcases h8 with h8 | ⟨b, off, ha, hlt, hc⟩
    · exact .inl h8
    · exact .inr ⟨b, off, ha, hlt, fun i hi => (World.cell?_setCell_other w ⟨R, 1, none⟩ ⟨b, off + i, none⟩ _ (by intro e; injection e; omega)).trans (hc i hi)⟩
theorem Up.step {w : World} {R : Nat} (v : Value) : Up R w.heap.size w (w.setCell ⟨R, 1, none⟩ v) := (Up.refl _ _ _).setCell (p := ⟨R, 1, none⟩) (.inl rfl) _
theorem Rd.drewN {w : World} {R k : Nat} (h : Rd w R k) (n : Nat) : Rd (w.drewN n) R k := h

set_option maxHeartbeats 1000000 in
theorem pick_any (R k : Nat) (n : Int) (w : World) (hr : Rd w R k) (hk : k < 1000000) (hn : 1 ≤ n) (hn2 : n ≤ 1000000000) :
    Calls Try.prog 64 #[.pointer (some ⟨R, 0, none⟩), .int .i64 n] w fun e w' => ∃ v : Int, e = .returned (.int .i64 v) ∧ 0 ≤ v ∧ v < n ∧ Rd w' R (k + 1) ∧ Up R w.heap.size w w' := by
  have hr0 := hr
  obtain ⟨a, len, cap, zs, h1, h2, h3, h4, h5, h6, h7, h8⟩ := hr
  by_cases hl : len = 0
  · subst hl
    clear h8 h7
    go_enter Try.func64, Try.ntmps64
    go_wp2
    go_ret
    exact ⟨_, rfl, by omega, by omega, hr0.step, Up.step _⟩
  · obtain ⟨b, off, rfl, hb, hc⟩ := h8.resolve_left hl
    have hne : ((len : Int) == 0) = false := by simp; omega
    have hlp : (0 : Int) < len := by omega
    have hln : 0 < len := by omega
    by_cases hkl : k < len
    · have hc1 := hc k hkl
      have hz := h7 k
      rw [show zs.getD k 0 = zs[k]?.getD 0 from by simp] at hc1 hz
      clear h8 h7 hc
      go_enter Try.func64, Try.ntmps64
      go_wp2
      go_ret
      exact ⟨_, rfl, Int.emod_nonneg _ (by omega), Int.emod_lt_of_pos _ (by omega), hr0.step, Up.step _⟩
    · have hm1 := Nat.mod_lt k hln
      have hm2 := Nat.mod_lt (k * 7 + 3) hln
      have hc1 := hc (k % len) hm1
      have hc2 := hc ((k * 7 + 3) % len) hm2
      have hz1 := h7 (k % len)
      have hz2 := h7 ((k * 7 + 3) % len)
      rw [show ∀ i, zs.getD i 0 = zs[i]?.getD 0 from fun i => by simp] at hc1 hc2 hz1 hz2
      clear h8 h7 hc
      have e0 : ((k : Int) == 0) = false := by simp; omega
      have g1 : (0 : Int) ≤ ((k % len : Nat) : Int) := by omega
      have g2 : ((k % len : Nat) : Int) < (len : Int) := by omega
      have g3 : (0 : Int) ≤ (((k * 7 + 3) % len : Nat) : Int) := by omega
      have g4 : (((k * 7 + 3) % len : Nat) : Int) < (len : Int) := by omega
      obtain ⟨c1, hc1e⟩ : ∃ c, c = k % len := ⟨_, rfl⟩
      obtain ⟨c2, hc2e⟩ : ∃ c, c = (k * 7 + 3) % len := ⟨_, rfl⟩
      rw [← hc1e] at g1 g2 hc1 hz1 hm1
      rw [← hc2e] at g3 g4 hc2 hz2 hm2
      have w1 : (k : Int).tmod (len : Int) = (c1 : Int) := by rw [Int.tmod_eq_emod_of_nonneg (by omega), hc1e]; simp
      have w2 : IntKind.i64.wrap ((k : Int) * 7) = (k : Int) * 7 := IntWalk.i64_in _ (by omega)
      have w3 : IntKind.i64.wrap ((k : Int) * 7 + 3) = (k : Int) * 7 + 3 := IntWalk.i64_in _ (by omega)
      have w4 : ((k : Int) * 7 + 3).tmod (len : Int) = (c2 : Int) := by rw [Int.tmod_eq_emod_of_nonneg (by omega), hc2e]; simp
      clear hc1e hc2e
      go_enter Try.func64, Try.ntmps64
      go_wp2_with fail
      go_quiet (fail)
      go_wp2
      go_ret
      have hX := pick_arg hz1 hz2 hk hln
      have hv := pick_val hX.1 hX.2 hn
      exact ⟨_, rfl, hv.1, hv.2, hr0.step.drewN _, (Up.step _).drewN _⟩
end Go.Proofs.Ytgiadgbfeldheaa

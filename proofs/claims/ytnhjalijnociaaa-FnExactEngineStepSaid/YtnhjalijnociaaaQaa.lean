/- What the frames of all laws share: what a slice of integers that came in looks like. -/
import Derived.Test.YtnhjalijnociaaaRows
import Derived.WalkKit
import Derived.ProofKit
import Derived.OpenShut
import Derived.ShutString
import Derived.ChangeOld
import Derived.Below
import Derived.Lib.SmallJoins
import Derived.WalkSpells
import Derived.WalkLawsBesides
import Derived.Handy
import Derived.Laws.Entries
import Derived.Laws.Bits64
import Derived.Deep.QuietTactic
import Derived.BigQuiet
import Derived.Lib.Hide
import Derived.Deep.Light
/- What the frames of all laws share: what a slice of integers that came in looks like. -/
namespace Go.Proofs.Ytnhjalijnociaaa
open Go.ChangeShapes Go.WideShapes Go.ChangeAt Go.RowKit

theorem own : ownKnob Try.prog.godebug = none := by kernel_rfl
theorem laidOut : laidOutB Try.prog = true := by kernel_rfl

/-- WHAT THE WALK IS TOLD OF A SLICE OF INTEGERS THAT CAME IN: 'cap' numbers 'zs' (the first 'len' are its elements, the rest its spare room), each fitting its kind; where there is room, they lie in a row. -/
def IsRow (k : IntKind) (w : World) (a : Option Addr) (len cap : Nat) (zs : List Int) : Prop :=
  len ≤ cap ∧ cap ≤ maxLen ∧ zs.length = cap ∧ (∀ n ∈ zs, (Lit.int k n).wf = true) ∧
  (cap = 0 ∨ ∃ b off, a = some ⟨b, off, none⟩ ∧ b < w.heap.size ∧ ∀ i, i < cap → w.cell? ⟨b, off + i, none⟩ = some (.int k (zs.getD i 0)))

theorem addr_add {b off : Nat} (i : Nat) : (⟨b, off, none⟩ : Addr).add i = ⟨b, off + i, none⟩ := by
  by_cases h : i = 0
  · subst h; simp [Addr.add]
  · simp [Addr.add, h]

theorem IsRow.keep {k : IntKind} {w w' : World} {a : Option Addr} {len cap : Nat} {zs : List Int} (h : IsRow k w a len cap zs) (hb : Below w.heap.size w w') : IsRow k w' a len cap zs := by
  obtain ⟨h1, h2, h3, h4, h5⟩ := h
  refine ⟨h1, h2, h3, h4, ?_⟩
  rcases h5 with h5 | ⟨b, off, ha, hlt, hc⟩
  · exact .inl h5
  · exact .inr ⟨b, off, ha, Nat.lt_of_lt_of_le hlt hb.size, fun i hi => (hb.cell hlt).trans (hc i hi)⟩

theorem isRow_nil {k : IntKind} {w : World} : IsRow k w none 0 0 [] := ⟨Nat.le_refl _, by simp [maxLen], rfl, by simp, .inl rfl⟩

theorem isRow_of {k : IntKind} {w : World} {x : Addr} {len cap : Nat} {zs : List Int} (hl : len ≤ cap) (hm : cap ≤ maxLen) (hz : zs.length = cap)
    (hcell : ∀ i, i < zs.length → w.cell? (x.add i) = some (.int k (zs.getD i 0))) (hwz : ∀ n ∈ zs, (Lit.int k n).wf = true) : IsRow k w (some x) len cap zs := by
  refine ⟨hl, hm, hz, hwz, ?_⟩
  rcases Nat.eq_zero_or_pos cap with h | h
  · exact .inl h
  · obtain ⟨b, off, spot⟩ := x
    have hc := hcell 0 (by omega)
    have hspot : spot = none := by simpa [Addr.add] using World.cell?_spot hc
    subst hspot
    have hb : b < w.heap.size := by
      have h0 := hcell 0 (by omega)
      by_cases hlt : b < w.heap.size
      · exact hlt
      · exfalso
        have : w.heap[b]? = none := by simp; omega
        simp [World.cell?, Addr.add, this] at h0
    exact .inr ⟨b, off, rfl, hb, fun i hi => by have := hcell i (by omega); rwa [addr_add] at this⟩

theorem isRow_open {H : Type} {enc : TypeId × Value → H} {w : World} {t e : TypeId} {k : IntKind} {a : Option Addr} {len cap : Nat} {d : DataW H} {p : List MemPlace} (ht : Try.prog.underlying t = some (.slice e)) (he : Try.prog.underlying e = some (.int k)) (hc : Try.prog.cellsOf e = 1)
    (h : DataW.Trod enc Try.prog w 0 (fun _ => true) true t (.slice a len cap) d p) : ∃ zs, IsRow k w a len cap zs := by
  obtain ⟨fuel, hf⟩ := h
  rcases open_ints ht he hc hf with ⟨hcs, _⟩ | ⟨x, l, c, zs, hcs, _, hl, hm, hz, _, hcell, hwz⟩
  · simp [Value.cells] at hcs
    obtain ⟨rfl, rfl, rfl⟩ := hcs
    exact ⟨[], isRow_nil⟩
  · simp [Value.cells] at hcs
    obtain ⟨rfl, rfl, rfl⟩ := hcs
    exact ⟨zs, isRow_of hl hm (by simpa using hz) hcell hwz⟩

/-- what an int that came in is known to be -/
theorem int_bounds {n : Int} (h : (Lit.int .i64 n).wf = true) : -9223372036854775808 ≤ n ∧ n ≤ 9223372036854775807 := by
  exact bounds_i64 h
end Go.Proofs.Ytnhjalijnociaaa

/- Contracts of the small functions on inputs: what each returns, for every argument; only new blocks are laid. -/
namespace Go.Proofs.Ytnhjalijnociaaa
open Go.RowKit

theorem ret_bool {a b : Bool} (h : a = b) : Ending.returned (.bool a) = .returned (.bool b) := by rw [h]
theorem ret_int {k : IntKind} {a b : Int} (h : a = b) : Ending.returned (.int k a) = .returned (.int k b) := by rw [h]

theorem bcell {W w1 : World} (hb : Below W.heap.size W w1) : (∀ b o, b < W.heap.size → w1.cell? ⟨b, o, none⟩ = W.cell? ⟨b, o, none⟩) ∧ (∀ b o, b < W.heap.size → w1.frozen? ⟨b, o, none⟩ = W.frozen? ⟨b, o, none⟩) :=
  ⟨fun b o h => hb.cell (p := ⟨b, o, none⟩) h, fun b o h => hb.frozen (p := ⟨b, o, none⟩) h⟩
theorem bstep {B : Nat} {w W w1 : World} (h : Below B w W) (hle : B ≤ W.heap.size) (hb : Below W.heap.size W w1) : Below B w w1 := h.trans (hb.mono hle)

/-- in a range -/
def inB (n lo hi : Int) : Bool := decide (lo ≤ n) && decide (n ≤ hi)
theorem inB_of {n lo hi : Int} (h : lo ≤ n) : inB n lo hi = decide (n ≤ hi) := by simp [inB, h]
theorem inB_lt {n lo hi : Int} (h : n < lo) : inB n lo hi = false := by simp [inB]; omega
theorem inB_true {n lo hi : Int} (h : inB n lo hi = true) : lo ≤ n ∧ n ≤ hi := by simpa [inB] using h
theorem inB_false {n lo hi : Int} (h : inB n lo hi = false) : n < lo ∨ hi < n := by
  simp [inB] at h; omega
attribute [irreducible] inB

set_option maxHeartbeats 400000 in
theorem sIn (n lo hi : Int) (w : World) : Calls Try.prog 79 #[.int .i64 n, .int .i64 lo, .int .i64 hi] w fun e w' => e = .returned (.bool (inB n lo hi)) ∧ w = w' := by
  go_enter Try.func79, Try.ntmps79
  go_wp2
  · go_ret; exact ⟨ret_bool (by rw [inB_of ‹_›]), rfl⟩
  · go_ret; exact ⟨ret_bool (by rw [inB_lt ‹_›]), rfl⟩

set_option maxHeartbeats 400000 in
theorem iIn (n lo hi : Int) (w : World) : Calls Try.prog 102 #[.int .i64 n, .int .i64 lo, .int .i64 hi] w fun e w' => e = .returned (.bool (inB n lo hi)) ∧ w = w' := by
  go_enter Try.func102, Try.ntmps102
  go_wp2
  · go_ret; exact ⟨ret_bool (by rw [inB_of ‹_›]), rfl⟩
  · go_ret; exact ⟨ret_bool (by rw [inB_lt ‹_›]), rfl⟩

/-- an input is valid -/
def inpV (s p : Int) (b : Bool) : Bool := inB s (-1) 1 && inB p 0 2 && (!b || (s == 0 && p == 0))

set_option maxHeartbeats 400000 in
theorem sInpV (s p : Int) (b : Bool) (w : World) : Calls Try.prog 36 #[.agg #[.int .i64 s, .int .i64 p, .bool b]] w fun e w' => e = .returned (.bool (inpV s p b)) ∧ Below w.heap.size w w' := by
  go_enter Try.func36, Try.ntmps36
  go_wp2_with (go_at_call 79; refine (sIn _ _ _ _).mono ?_; rintro e w' ⟨rfl, rfl⟩)
  all_goals (go_ret; exact ⟨ret_bool (by rw [Bool.eq_iff_iff]; simp_all [inpV, inB] <;> omega), by go_grown⟩)

set_option maxHeartbeats 400000 in
theorem iInpV (s p : Int) (b : Bool) (w : World) : Calls Try.prog 61 #[.agg #[.int .i64 s, .int .i64 p, .bool b]] w fun e w' => e = .returned (.bool (inpV s p b)) ∧ Below w.heap.size w w' := by
  go_enter Try.func61, Try.ntmps61
  go_wp2_with (go_at_call 102; refine (iIn _ _ _ _).mono ?_; rintro e w' ⟨rfl, rfl⟩)
  all_goals (go_ret; exact ⟨ret_bool (by rw [Bool.eq_iff_iff]; simp_all [inpV, inB] <;> omega), by go_grown⟩)

set_option maxHeartbeats 400000 in
theorem toInp (s p : Int) (b : Bool) (w : World) : Calls Try.prog 31 #[.agg #[.int .i64 s, .int .i64 p, .bool b]] w fun e w' => e = .returned (.agg #[.int .i64 s, .int .i64 p, .bool b]) ∧ Below w.heap.size w w' := by
  go_enter Try.func31, Try.ntmps31
  go_wp2
  go_returns
  exact ⟨rfl, by go_grown⟩

end Go.Proofs.Ytnhjalijnociaaa

/- Plain laws: the hash's step and its folds, the exclusive or of small numbers. No program in sight. -/
namespace Go.Proofs.Ytnhjalijnociaaa
open Go

/-- a hash is continued by a number -/
def hst (h n : Int) : Int := (8191 * h + n % 1000003 + 1) % 1000003
theorem hst_lo (h n : Int) : 0 ≤ hst h n := by unfold hst; omega
theorem hst_hi (h n : Int) : hst h n < 1000003 := by unfold hst; omega
/-- .. by the first k of the numbers that f gives -/
def hfo (f : Nat → Int) (h : Int) : Nat → Int
  | 0 => h
  | k + 1 => hst (hfo f h k) (f k)
theorem hfo_lo (f : Nat → Int) {h : Int} (h0 : 0 ≤ h) : ∀ k, 0 ≤ hfo f h k
  | 0 => h0
  | _ + 1 => hst_lo _ _
theorem hfo_hi (f : Nat → Int) {h : Int} (h0 : h < 1000003) : ∀ k, hfo f h k < 1000003
  | 0 => h0
  | _ + 1 => hst_hi _ _
theorem hfo_congr {f g : Nat → Int} {h : Int} : ∀ k, (∀ i, i < k → f i = g i) → hfo f h k = hfo g h k
  | 0, _ => rfl
  | k + 1, e => by rw [hfo, hfo, hfo_congr k (fun i hi => e i (by omega)), e k (by omega)]
theorem tmod_lo (n : Int) : -1000003 < n.tmod 1000003 := by
  have := Int.tmod_def n 1000003
  rcases Int.le_total 0 n with h | h
  · have := Int.tmod_nonneg 1000003 h; omega
  · have h2 := Int.tmod_nonneg 1000003 (a := -n) (by omega)
    have h3 := Int.tmod_lt_of_pos (-n) (b := 1000003) (by omega)
    rw [Int.neg_tmod] at h2 h3
    omega
theorem tmod_hi (n : Int) : n.tmod 1000003 < 1000003 := Int.tmod_lt_of_pos _ (by omega)
theorem tmod_fix (n : Int) : (n.tmod 1000003 + 1000003) % 1000003 = n % 1000003 := by
  have h := Int.tmod_def n 1000003
  generalize n.tdiv 1000003 = q at h
  omega
theorem tmod_emod (n : Int) : n.tmod 1000003 % 1000003 = n % 1000003 := by
  have h := Int.tmod_def n 1000003
  generalize n.tdiv 1000003 = q at h
  omega
theorem hst_eq (h n : Int) : (8191 * h + n.tmod 1000003 % 1000003 + 1) % 1000003 = hst h n := by rw [tmod_emod]; rfl
theorem hst_eq2 (h n : Int) : (h * 8191 + n.tmod 1000003 % 1000003 + 1) % 1000003 = hst h n := by rw [tmod_emod, Int.mul_comm]; rfl
/-- the step does not lose the hash, nor the number -/
theorem hst_inj {a b n : Int} (ha : 0 ≤ a) (ha2 : a < 1000003) (hb : 0 ≤ b) (hb2 : b < 1000003) (h : hst a n = hst b n) : a = b := by
  unfold hst at h
  omega
theorem hst_inj2 {a n m : Int} (h : hst a n = hst a m) : n % 1000003 = m % 1000003 := by
  unfold hst at h
  omega

theorem xor_i64 (a b : Nat) (ha : a < 4611686018427387904) (hb : b < 4611686018427387904) : bits .xor .i64 (a : Int) (b : Int) = ((a ^^^ b : Nat) : Int) := by
  have hx : a ^^^ b < 2 ^ 62 := Nat.xor_lt_two_pow (by omega) (by omega)
  have h1 : (BitVec.ofInt 64 (a : Int)).toNat = a := by
    rw [BitVec.ofInt_natCast, BitVec.toNat_ofNat]; exact Nat.mod_eq_of_lt (by omega)
  have h2 : (BitVec.ofInt 64 (b : Int)).toNat = b := by
    rw [BitVec.ofInt_natCast, BitVec.toNat_ofNat]; exact Nat.mod_eq_of_lt (by omega)
  show IntKind.i64.wrap ((BitVec.ofInt 64 (a : Int) ^^^ BitVec.ofInt 64 (b : Int)).toNat : Int) = _
  rw [BitVec.toNat_xor, h1, h2, IntKind.wrap_i64]
  omega
theorem xor_nonneg {x y : Int} (hx : 0 ≤ x) (hx2 : x < 4611686018427387904) (hy : 0 ≤ y) (hy2 : y < 4611686018427387904) : 0 ≤ bits .xor .i64 x y := by
  obtain ⟨a, rfl⟩ := Int.eq_ofNat_of_zero_le hx
  obtain ⟨b, rfl⟩ := Int.eq_ofNat_of_zero_le hy
  rw [xor_i64 a b (by omega) (by omega)]
  omega
theorem pick_val {X n : Int} (h0 : 0 ≤ X) (h1 : X < 4611686018427387904) (hn : 1 ≤ n) :
    0 ≤ (bits .xor .i64 X (RowKit.wrap64 (X.tdiv 64))).tmod n ∧ (bits .xor .i64 X (RowKit.wrap64 (X.tdiv 64))).tmod n < n := by
  have e : X.tdiv 64 = X / 64 := Int.tdiv_eq_ediv_of_nonneg h0
  rw [e, IntWalk.wrap64_in _ (by omega)]
  have hx := xor_nonneg (x := X) (y := X / 64) h0 h1 (by omega) (by omega)
  exact ⟨Int.tmod_nonneg _ hx, Int.tmod_lt_of_pos _ (by omega)⟩
theorem pick_arg {z1 z2 : Int} {k len : Nat} (h1 : 0 ≤ z1 ∧ z1 ≤ 255) (h2 : 0 ≤ z2 ∧ z2 ≤ 255) (hk : k < 1000000) (hl : 0 < len) :
    0 ≤ RowKit.wrap64 (z1 * 131 + z2 * 1117 + (k : Int) * 29 + RowKit.wrap64 (RowKit.wrap64 ((k : Int) / (len : Int)) * 53)) ∧
    RowKit.wrap64 (z1 * 131 + z2 * 1117 + (k : Int) * 29 + RowKit.wrap64 (RowKit.wrap64 ((k : Int) / (len : Int)) * 53)) < 4611686018427387904 := by
  have h3 : 0 ≤ (k : Int) / (len : Int) := Int.ediv_nonneg (by omega) (by omega)
  have h4 : (k : Int) / (len : Int) ≤ k := Int.ediv_le_self _ (by omega)
  generalize (k : Int) / (len : Int) = q at h3 h4
  rw [IntWalk.wrap64_in q (by omega), IntWalk.wrap64_in (q * 53) (by omega), IntWalk.wrap64_in _ (by omega)]
  omega
end Go.Proofs.Ytnhjalijnociaaa

/- Worlds that differ in one old block alone, and the reader of drawn inputs: what it is, and what one step of it does. -/
namespace Go.Proofs.Ytnhjalijnociaaa
open Go.RowKit

/-- Below block number B the world w' is as w was, but for block R. -/
structure Up (R B : Nat) (w w' : World) : Prop where
  os : w'.os = w.os
  tape : w'.tape = w.tape
  output : w'.output = w.output
  size : w.heap.size ≤ w'.heap.size
  block : ∀ k, k < B → k ≠ R → w'.heap[k]? = w.heap[k]?

theorem Up.refl (R B : Nat) (w : World) : Up R B w w := ⟨rfl, rfl, rfl, Nat.le_refl _, fun _ _ _ => rfl⟩
theorem Up.trans {R B : Nat} {a b c : World} (h : Up R B a b) (k : Up R B b c) : Up R B a c :=
  ⟨k.os.trans h.os, k.tape.trans h.tape, k.output.trans h.output, Nat.le_trans h.size k.size, fun i hi hr => (k.block i hi hr).trans (h.block i hi hr)⟩
theorem Up.mono {R B B' : Nat} {w w' : World} (h : Up R B w w') (hB : B' ≤ B) : Up R B' w w' := ⟨h.os, h.tape, h.output, h.size, fun k hk => h.block k (Nat.lt_of_lt_of_le hk hB)⟩
theorem Up.of_below {R B : Nat} {w w' : World} (h : Below B w w') : Up R B w w' := ⟨h.os, h.tape, h.output, h.size, fun k hk _ => h.block k hk⟩
theorem Up.below {R B : Nat} {w w' : World} (h : Up R B w w') (hR : B ≤ R) : Below B w w' := ⟨h.os, h.tape, h.output, h.size, fun k hk => h.block k hk (by omega)⟩
theorem Up.drew {R B : Nat} {a w : World} (h : Up R B a w) : Up R B a w.drew := ⟨h.os, h.tape, h.output, h.size, h.block⟩
theorem Up.drewN {R B : Nat} {a w : World} (h : Up R B a w) (n : Nat) : Up R B a (w.drewN n) := ⟨h.os, h.tape, h.output, h.size, h.block⟩
theorem Up.alloc {R B : Nat} {a w : World} (h : Up R B a w) (hB : B ≤ w.heap.size) (o : Obj) : Up R B a (w.alloc o) :=
  h.trans (Up.of_below ((Below.refl _ _).alloc hB o))
theorem Up.setCell {R B : Nat} {a w : World} (h : Up R B a w) {p : Addr} (hp : p.block = R ∨ B ≤ p.block) (u : Value) : Up R B a (w.setCell p u) :=
  h.trans ⟨rfl, rfl, rfl, by simp [World.setCell], fun k hk hr => Below.heap_setCell _ _ _ _ (by omega)⟩
theorem Up.cell {R B : Nat} {w w' : World} (h : Up R B w w') {p : Addr} (hp : p.block < B) (hr : p.block ≠ R) : w'.cell? p = w.cell? p := World.cell?_of_block (w := w) (h.block p.block hp hr)
theorem Up.frozen {R B : Nat} {w w' : World} (h : Up R B w w') {p : Addr} (hp : p.block < B) (hr : p.block ≠ R) : w'.frozen? p = w.frozen? p := World.frozen?_of_block (w := w) (h.block p.block hp hr)
theorem upstep {R B : Nat} {w W w1 : World} (h : Up R B w W) (hle : B ≤ W.heap.size) (hb : Up R W.heap.size W w1) : Up R B w w1 := h.trans (hb.mono hle)
theorem rcell {R : Nat} {W w1 : World} (hb : Up R W.heap.size W w1) : (∀ b o, b < W.heap.size → b ≠ R → w1.cell? ⟨b, o, none⟩ = W.cell? ⟨b, o, none⟩) ∧ (∀ b o, b < W.heap.size → b ≠ R → w1.frozen? ⟨b, o, none⟩ = W.frozen? ⟨b, o, none⟩) :=
  ⟨fun b o h hr => hb.cell (p := ⟨b, o, none⟩) h hr, fun b o h hr => hb.frozen (p := ⟨b, o, none⟩) h hr⟩

/-- The reader at block R has read k times: its bytes lie in older memory. -/
def Rd (w : World) (R k : Nat) : Prop :=
  ∃ (a : Option Addr) (len cap : Nat) (zs : List Int), R < w.heap.size ∧ len ≤ 2000 ∧ len ≤ cap ∧
    w.cell? ⟨R, 0, none⟩ = some (.slice a len cap) ∧ w.cell? ⟨R, 1, none⟩ = some (.int .i64 k) ∧ w.frozen? ⟨R, 1, none⟩ = false ∧
    (∀ i : Nat, 0 ≤ zs.getD i 0 ∧ zs.getD i 0 ≤ 255) ∧
    (len = 0 ∨ ∃ b off, a = some ⟨b, off, none⟩ ∧ b < R ∧ ∀ i, i < len → w.cell? ⟨b, off + i, none⟩ = some (.int .u8 (zs.getD i 0)))

theorem Rd.lt {w : World} {R k : Nat} (h : Rd w R k) : R < w.heap.size := by
  obtain ⟨_, _, _, _, h, _⟩ := h
  exact h
theorem Rd.keep {w w' : World} {R k : Nat} (h : Rd w R k) (hb : Below (R + 1) w w') : Rd w' R k := by
  obtain ⟨a, len, cap, zs, h1, h2, h3, h4, h5, h6, h7, h8⟩ := h
  refine ⟨a, len, cap, zs, Nat.lt_of_lt_of_le h1 hb.size, h2, h3, (hb.cell (by simp)).trans h4, (hb.cell (by simp)).trans h5, (hb.frozen (by simp)).trans h6, h7, ?_⟩
  rcases h8 with h8 | ⟨b, off, ha, hlt, hc⟩
  · exact .inl h8
  · exact .inr ⟨b, off, ha, hlt, fun i hi => (hb.cell (by simp; omega)).trans (hc i hi)⟩

theorem Rd.step {w : World} {R k : Nat} (h : Rd w R k) : Rd (w.setCell ⟨R, 1, none⟩ (.int .i64 ((k : Int) + 1))) R (k + 1) := by
  obtain ⟨a, len, cap, zs, h1, h2, h3, h4, h5, h6, h7, h8⟩ := h
  refine ⟨a, len, cap, zs, by simpa using h1, h2, h3, ?_, ?_, ?_, h7, ?_⟩
  · exact (World.cell?_setCell_other w ⟨R, 1, none⟩ ⟨R, 0, none⟩ _ (by simp)).trans h4
  · exact World.cell?_setCell_same' _ _ _ (by rw [h5]; rfl)
  · rw [World.frozen?_setCell]; exact h6
  · rcases h8 with h8 | ⟨b, off, ha, hlt, hc⟩
    · exact .inl h8
    · exact .inr ⟨b, off, ha, hlt, fun i hi => (World.cell?_setCell_other w ⟨R, 1, none⟩ ⟨b, off + i, none⟩ _ (by intro e; injection e; omega)).trans (hc i hi)⟩
theorem Up.step {w : World} {R : Nat} (v : Value) : Up R w.heap.size w (w.setCell ⟨R, 1, none⟩ v) := (Up.refl _ _ _).setCell (p := ⟨R, 1, none⟩) (.inl rfl) _
theorem Rd.drewN {w : World} {R k : Nat} (h : Rd w R k) (n : Nat) : Rd (w.drewN n) R k := h

set_option maxHeartbeats 1000000 in
theorem pick_any (R k : Nat) (n : Int) (w : World) (hr : Rd w R k) (hk : k < 1000000) (hn : 1 ≤ n) (hn2 : n ≤ 1000000000) :
    Calls Try.prog 58 #[.pointer (some ⟨R, 0, none⟩), .int .i64 n] w fun e w' => ∃ v : Int, e = .returned (.int .i64 v) ∧ 0 ≤ v ∧ v < n ∧ Rd w' R (k + 1) ∧ Up R w.heap.size w w' := by
  have hr0 := hr
  obtain ⟨a, len, cap, zs, h1, h2, h3, h4, h5, h6, h7, h8⟩ := hr
  by_cases hl : len = 0
  · subst hl
    clear h8 h7
    go_enter Try.func58, Try.ntmps58
    go_wp2
    go_ret
    exact ⟨_, rfl, by omega, by omega, hr0.step, Up.step _⟩
  · obtain ⟨b, off, rfl, hb, hc⟩ := h8.resolve_left hl
    have hne : ((len : Int) == 0) = false := by simp; omega
    have hlp : (0 : Int) < len := by omega
    have hln : 0 < len := by omega
    by_cases hkl : k < len
    · have hc1 := hc k hkl
      have hz := h7 k
      rw [show zs.getD k 0 = zs[k]?.getD 0 from by simp] at hc1 hz
      clear h8 h7 hc
      go_enter Try.func58, Try.ntmps58
      go_wp2
      go_ret
      exact ⟨_, rfl, Int.emod_nonneg _ (by omega), Int.emod_lt_of_pos _ (by omega), hr0.step, Up.step _⟩
    · have hm1 := Nat.mod_lt k hln
      have hm2 := Nat.mod_lt (k * 7 + 3) hln
      have hc1 := hc (k % len) hm1
      have hc2 := hc ((k * 7 + 3) % len) hm2
      have hz1 := h7 (k % len)
      have hz2 := h7 ((k * 7 + 3) % len)
      rw [show ∀ i, zs.getD i 0 = zs[i]?.getD 0 from fun i => by simp] at hc1 hc2 hz1 hz2
      clear h8 h7 hc
      have e0 : ((k : Int) == 0) = false := by simp; omega
      have g1 : (0 : Int) ≤ ((k % len : Nat) : Int) := by omega
      have g2 : ((k % len : Nat) : Int) < (len : Int) := by omega
      have g3 : (0 : Int) ≤ (((k * 7 + 3) % len : Nat) : Int) := by omega
      have g4 : (((k * 7 + 3) % len : Nat) : Int) < (len : Int) := by omega
      obtain ⟨c1, hc1e⟩ : ∃ c, c = k % len := ⟨_, rfl⟩
      obtain ⟨c2, hc2e⟩ : ∃ c, c = (k * 7 + 3) % len := ⟨_, rfl⟩
      rw [← hc1e] at g1 g2 hc1 hz1 hm1
      rw [← hc2e] at g3 g4 hc2 hz2 hm2
      have w1 : (k : Int).tmod (len : Int) = (c1 : Int) := by rw [Int.tmod_eq_emod_of_nonneg (by omega), hc1e]; simp
      have w2 : IntKind.i64.wrap ((k : Int) * 7) = (k : Int) * 7 := IntWalk.i64_in _ (by omega)
      have w3 : IntKind.i64.wrap ((k : Int) * 7 + 3) = (k : Int) * 7 + 3 := IntWalk.i64_in _ (by omega)
      have w4 : ((k : Int) * 7 + 3).tmod (len : Int) = (c2 : Int) := by rw [Int.tmod_eq_emod_of_nonneg (by omega), hc2e]; simp
      clear hc1e hc2e
      go_enter Try.func58, Try.ntmps58
      go_wp2_with fail
      go_quiet (fail)
      go_wp2
      go_ret
      have hX := pick_arg hz1 hz2 hk hln
      have hv := pick_val hX.1 hX.2 hn
      exact ⟨_, rfl, hv.1, hv.2, hr0.step.drewN _, (Up.step _).drewN _⟩
end Go.Proofs.Ytnhjalijnociaaa

/- The laws on inputs and their numbers: FnExactInputOf, FnCodes, FnExactInputCode, FnCodeBack, FnPause, FnCode. -/
namespace Go.Proofs.Ytnhjalijnociaaa
open Go.RowKit

/-- the input with a number: its steering, its power, whether it pauses -/
def ioS (n : Int) : Int := if 0 ≤ n ∧ n ≤ 8 then n % 3 - 1 else 0
def ioP (n : Int) : Int := if 0 ≤ n ∧ n ≤ 8 then n / 3 else 0
def ioB (n : Int) : Bool := decide (n = 9)
/-- the number of an input -/
def inpC (s p : Int) (b : Bool) : Int := if inpV s p b then (if b then 9 else 3 * p + s + 1) else -1
theorem ioS_9 : ioS 9 = 0 := by decide
theorem ioP_9 : ioP 9 = 0 := by decide
theorem ioB_9 : ioB 9 = true := by decide
theorem ioB_ne {n : Int} (h : n ≠ 9) : ioB n = false := by simp [ioB, h]
theorem ioS_in {n : Int} (h : 0 ≤ n) (h2 : n ≤ 8) : ioS n = n % 3 - 1 := if_pos ⟨h, h2⟩
theorem ioP_in {n : Int} (h : 0 ≤ n) (h2 : n ≤ 8) : ioP n = n / 3 := if_pos ⟨h, h2⟩
theorem ioS_out {n : Int} (h : ¬ (0 ≤ n ∧ n ≤ 8)) : ioS n = 0 := if_neg h
theorem ioP_out {n : Int} (h : ¬ (0 ≤ n ∧ n ≤ 8)) : ioP n = 0 := if_neg h
theorem ret_io {s p s' p' : Int} {b b' k k' : Bool} (h1 : s = s') (h2 : p = p') (h3 : b = b') (h4 : k = k') :
    Ending.returned (.tuple #[.agg #[.int .i64 s, .int .i64 p, .bool b], .bool k]) = .returned (.tuple #[.agg #[.int .i64 s', .int .i64 p', .bool b'], .bool k']) := by rw [h1, h2, h3, h4]
theorem inB_yes {n lo hi : Int} (h : lo ≤ n) (h2 : n ≤ hi) : inB n lo hi = true := by rw [inB_of h]; simpa using h2
theorem inB_no {n lo hi : Int} (h : n < lo ∨ hi < n) : inB n lo hi = false := by
  rcases h with h | h
  · exact inB_lt h
  · by_cases h2 : lo ≤ n
    · rw [inB_of h2]; simp; omega
    · exact inB_lt (by omega)
attribute [irreducible] ioS ioP ioB inpC

set_option maxHeartbeats 400000 in
theorem sInputOf (n : Int) (w : World) : Calls Try.prog 101 #[.int .i64 n] w fun e w' => e = .returned (.tuple #[.agg #[.int .i64 (ioS n), .int .i64 (ioP n), .bool (ioB n)], .bool (inB n 0 9)]) ∧ Below w.heap.size w w' := by
  by_cases h9 : n = 9
  · subst h9
    have k1 : inB 9 0 9 = true := inB_yes (by omega) (by omega)
    go_enter Try.func101, Try.ntmps101
    go_wp2_with (go_at_call 79; refine (sIn _ _ _ _).mono ?_; rintro e w' ⟨rfl, rfl⟩)
    go_returns
    exact ⟨ret_io ioS_9.symm ioP_9.symm ioB_9.symm k1.symm, by (repeat (first | with_reducible assumption | with_reducible exact Below.refl _ _ | ((with_reducible refine Below.alloc ?_ ?_ _); rotate_left; · exact (by first | omega | (simp; done) | (simp; omega))) | ((with_reducible refine Below.setCell ?_ ?_ _); rotate_left; · exact (by first | omega | (simp; done) | (simp; omega))) | with_reducible refine Below.drew ?_ | assumption | exact Below.refl _ _ | refine Below.alloc ?_ (by first | omega | (simp; done) | (simp; omega)) _ | refine Below.setCell ?_ (by first | omega | (simp; done) | (simp; omega)) _ | refine Below.drew ?_))⟩
  · have k9 : (n == 9) = false := by simpa using h9
    by_cases h8 : 0 ≤ n ∧ n ≤ 8
    · obtain ⟨h0, h8⟩ := h8
      have k1 : inB n 0 9 = true := inB_yes (by omega) (by omega)
      go_enter Try.func101, Try.ntmps101
      go_wp2_with (go_at_call 79; refine (sIn _ _ _ _).mono ?_; rintro e w' ⟨rfl, rfl⟩)
      go_returns
      exact ⟨ret_io (ioS_in h0 h8).symm (ioP_in h0 h8).symm (ioB_ne h9).symm k1.symm, by (repeat (first | with_reducible assumption | with_reducible exact Below.refl _ _ | ((with_reducible refine Below.alloc ?_ ?_ _); rotate_left; · exact (by first | omega | (simp; done) | (simp; omega))) | ((with_reducible refine Below.setCell ?_ ?_ _); rotate_left; · exact (by first | omega | (simp; done) | (simp; omega))) | with_reducible refine Below.drew ?_ | assumption | exact Below.refl _ _ | refine Below.alloc ?_ (by first | omega | (simp; done) | (simp; omega)) _ | refine Below.setCell ?_ (by first | omega | (simp; done) | (simp; omega)) _ | refine Below.drew ?_))⟩
    · have k1 : inB n 0 9 = false := inB_no (by omega)
      go_enter Try.func101, Try.ntmps101
      go_wp2_with (go_at_call 79; refine (sIn _ _ _ _).mono ?_; rintro e w' ⟨rfl, rfl⟩)
      go_returns
      exact ⟨ret_io (ioS_out h8).symm (ioP_out h8).symm (ioB_ne h9).symm k1.symm, by (repeat (first | with_reducible assumption | with_reducible exact Below.refl _ _ | ((with_reducible refine Below.alloc ?_ ?_ _); rotate_left; · exact (by first | omega | (simp; done) | (simp; omega))) | ((with_reducible refine Below.setCell ?_ ?_ _); rotate_left; · exact (by first | omega | (simp; done) | (simp; omega))) | with_reducible refine Below.drew ?_ | assumption | exact Below.refl _ _ | refine Below.alloc ?_ (by first | omega | (simp; done) | (simp; omega)) _ | refine Below.setCell ?_ (by first | omega | (simp; done) | (simp; omega)) _ | refine Below.drew ?_))⟩


theorem inpC_no {s p : Int} {b : Bool} (h : inpV s p b = false) : inpC s p b = -1 := by simp [inpC, h]
theorem inpC_pause {s p : Int} (h : inpV s p true = true) : inpC s p true = 9 := by simp [inpC, h]
theorem inpC_go {s p : Int} (h : inpV s p false = true) : inpC s p false = 3 * p + s + 1 := by simp [inpC, h]
theorem inpV_bd {s p : Int} {b : Bool} (h : inpV s p b = true) : -1 ≤ s ∧ s ≤ 1 ∧ 0 ≤ p ∧ p ≤ 2 ∧ (b = true → s = 0 ∧ p = 0) := by
  simp [inpV, inB] at h
  obtain ⟨⟨⟨h1, h2⟩, h3, h4⟩, h5⟩ := h
  exact ⟨h1, h2, h3, h4, fun hb => by simpa [hb] using h5⟩




end Go.Proofs.Ytnhjalijnociaaa

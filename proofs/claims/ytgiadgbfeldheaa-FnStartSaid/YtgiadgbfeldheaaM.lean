/- Plain laws: the hash's step and its folds, the exclusive or of small numbers. No program in sight. -/
import Derived.Laws.Entries
import Derived.Laws.Bits64
import Derived.WalkKit
namespace Go.Proofs.Ytgiadgbfeldheaa
open Go

/-- a hash is continued by a number -/
def hst (h n : Int) : Int := (8191 * h + n % 1000003 + 1) % 1000003
theorem hst_lo (h n : Int) : 0 ≤ hst h n := by unfold hst; omega
theorem hst_hi (h n : Int) : hst h n < 1000003 := by unfold hst; omega
/-- .. by the first k of the numbers that f gives -/
def hfo (f : Nat → Int) (h : Int) : Nat → Int
  | 0 => h
  | k + 1 => hst (hfo f h k) (f k)
theorem hfo_lo (f : Nat → Int) {h : Int} (h0 : 0 ≤ h) : ∀ k, 0 ≤ hfo f h k
  | 0 => h0
  | _ + 1 => hst_lo _ _
theorem hfo_hi (f : Nat → Int) {h : Int} (h0 : h < 1000003) : ∀ k, hfo f h k < 1000003
  | 0 => h0
  | _ + 1 => hst_hi _ _
theorem hfo_congr {f g : Nat → Int} {h : Int} : ∀ k, (∀ i, i < k → f i = g i) → hfo f h k = hfo g h k
  | 0, _ => rfl
  | k + 1, e => by rw [hfo, hfo, hfo_congr k (fun i hi => e i (by omega)), e k (by omega)]
theorem tmod_lo (n : Int) : -1000003 < n.tmod 1000003 := by
  have := Int.tmod_def n 1000003
  rcases Int.le_total 0 n with h | h
  · have := Int.tmod_nonneg 1000003 h; omega
  · have h2 := Int.tmod_nonneg 1000003 (a := -n) (by omega)
    have h3 := Int.tmod_lt_of_pos (-n) (b := 1000003) (by omega)
    rw [Int.neg_tmod] at h2 h3
    omega
theorem tmod_hi (n : Int) : n.tmod 1000003 < 1000003 := Int.tmod_lt_of_pos _ (by omega)
theorem tmod_fix (n : Int) : (n.tmod 1000003 + 1000003) % 1000003 = n % 1000003 := by
  have h := Int.tmod_def n 1000003
  generalize n.tdiv 1000003 = q at h
  omega
theorem tmod_emod (n : Int) : n.tmod 1000003 % 1000003 = n % 1000003 := by
  have h := Int.tmod_def n 1000003
  generalize n.tdiv 1000003 = q at h
  omega
theorem hst_eq (h n : Int) : (8191 * h + n.tmod 1000003 % 1000003 + 1) % 1000003 = hst h n := by rw [tmod_emod]; rfl
theorem hst_eq2 (h n : Int) : (h * 8191 + n.tmod 1000003 % 1000003 + 1) % 1000003 = hst h n := by rw [tmod_emod, Int.mul_comm]; rfl
/-- the step does not lose the hash, nor the number -/
theorem hst_inj {a b n : Int} (ha : 0 ≤ a) (ha2 : a < 1000003) (hb : 0 ≤ b) (hb2 : b < 1000003) (h : hst a n = hst b n) : a = b := by
  unfold hst at h
  omega
theorem hst_inj2 {a n m : Int} (h : hst a n = hst a m) : n % 1000003 = m % 1000003 := by
  unfold hst at h
  omega

theorem xor_i64 (a b : Nat) (ha : a < 4611686018427387904) (hb : b < 4611686018427387904) : bits .xor .i64 (a : Int) (b : Int) = ((a ^^^ b : Nat) : Int) := by
  have hx : a ^^^ b < 2 ^ 62 := Nat.xor_lt_two_pow (by omega) (by omega)
  have h1 : (BitVec.ofInt 64 (a : Int)).toNat = a := by
    rw [BitVec.ofInt_natCast, BitVec.toNat_ofNat]; exact Nat.mod_eq_of_lt (by omega)
  have h2 : (BitVec.ofInt 64 (b : Int)).toNat = b := by
    rw [BitVec.ofInt_natCast, BitVec.toNat_ofNat]; exact Nat.mod_eq_of_lt (by omega)
  show IntKind.i64.wrap ((BitVec.ofInt 64 (a : Int) ^^^ BitVec.ofInt 64 (b : Int)).toNat : Int) = _
  rw [BitVec.toNat_xor, h1, h2, IntKind.wrap_i64]
  omega
theorem xor_nonneg {x y : Int} (hx : 0 ≤ x) (hx2 : x < 4611686018427387904) (hy : 0 ≤ y) (hy2 : y < 4611686018427387904) : 0 ≤ bits .xor .i64 x y := by
  obtain ⟨a, rfl⟩ := Int.eq_ofNat_of_zero_le hx
  obtain ⟨b, rfl⟩ := Int.eq_ofNat_of_zero_le hy
  rw [xor_i64 a b (by omega) (by omega)]
  omega
theorem pick_val {X n : Int} (h0 : 0 ≤ X) (h1 : X < 4611686018427387904) (hn : 1 ≤ n) :
    0 ≤ (bits .xor .i64 X (RowKit.wrap64 (X.tdiv 64))).tmod n ∧ (bits .xor .i64 X (RowKit.wrap64 (X.tdiv 64))).tmod n < n := by
  have e : X.tdiv 64 = X / 64 := Int.tdiv_eq_ediv_of_nonneg h0
  rw [e, IntWalk.wrap64_in _ (by omega)]
  have hx := xor_nonneg (x := X) (y := X / 64) h0 h1 (by omega) (by omega)
  exact ⟨Int.tmod_nonneg _ hx, Int.tmod_lt_of_pos _ (by omega)⟩
theorem pick_arg {z1 z2 : Int} {k len : Nat} (h1 : 0 ≤ z1 ∧ z1 ≤ 255) (h2 : 0 ≤ z2 ∧ z2 ≤ 255) (hk : k < 1000000) (hl : 0 < len) :
    0 ≤ RowKit.wrap64 (z1 * 131 + z2 * 1117 + (k : Int) * 29 + RowKit.wrap64 (RowKit.wrap64 ((k : Int) / (len : Int)) * 53)) ∧
    RowKit.wrap64 (z1 * 131 + z2 * 1117 + (k : Int) * 29 + RowKit.wrap64 (RowKit.wrap64 ((k : Int) / (len : Int)) * 53)) < 4611686018427387904 := by
  have h3 : 0 ≤ (k : Int) / (len : Int) := Int.ediv_nonneg (by omega) (by omega)
  have h4 : (k : Int) / (len : Int) ≤ k := Int.ediv_le_self _ (by omega)
  generalize (k : Int) / (len : Int) = q at h3 h4
  rw [IntWalk.wrap64_in q (by omega), IntWalk.wrap64_in (q * 53) (by omega), IntWalk.wrap64_in _ (by omega)]
  omega
end Go.Proofs.Ytgiadgbfeldheaa

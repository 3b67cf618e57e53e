/- Plain laws of hashes and tags: no program in sight. -/
import Derived.Test.YtccbjhmjildinaaO
namespace Go.Proofs.Ytccbjhmjildinaa
open Go.RowKit

theorem hashF_bd (f : Nat → Int) (n : Nat) : -1 ≤ hashF f n ∧ hashF f n < 1000003 := by
  by_cases h : (okf f n && decide (n ≤ 200)) = true
  · rw [hashF_yes h]
    have := hfo_lo f (h := 17) (by omega) n
    have := hfo_hi f (h := 17) (by omega) n
    omega
  · rw [hashF_no (by simpa using h)]; omega
theorem hashF_ok {f : Nat → Int} {n : Nat} (h : 0 ≤ hashF f n) : (okf f n && decide (n ≤ 200)) = true := by
  by_cases h2 : (okf f n && decide (n ≤ 200)) = true
  · exact h2
  · rw [hashF_no (by simpa using h2)] at h; omega
theorem tagF_bd (key : Int) (f : Nat → Int) (n : Nat) : -1 ≤ tagF key f n ∧ tagF key f n < 1000003 := by
  by_cases h : inB key 1 9999 = true ∧ (okf f n && decide (n ≤ 200)) = true
  · rw [tagF_yes h.1 h.2]
    have := hst_lo (hfo f (hst 17 key) n) key
    have := hst_hi (hfo f (hst 17 key) n) key
    omega
  · rw [tagF_no (by cases h1 : inB key 1 9999 <;> simp_all)]; omega
theorem tagF_ok {key : Int} {f : Nat → Int} {n : Nat} (h : 0 ≤ tagF key f n) : inB key 1 9999 = true ∧ (okf f n && decide (n ≤ 200)) = true := by
  by_cases h2 : inB key 1 9999 = true ∧ (okf f n && decide (n ≤ 200)) = true
  · exact h2
  · rw [tagF_no (by cases h1 : inB key 1 9999 <;> simp_all)] at h; omega

/-- the numbers, one of them replaced -/
def chg (f : Nat → Int) (k : Nat) (v : Int) : Nat → Int := fun i => if i = k then v else f i
theorem chg_at (f : Nat → Int) (k : Nat) (v : Int) : chg f k v k = v := if_pos rfl
theorem chg_ne {f : Nat → Int} {k i : Nat} {v : Int} (h : i ≠ k) : chg f k v i = f i := if_neg h
theorem hfo_chg {f : Nat → Int} {k : Nat} {v h : Int} (h0 : 0 ≤ h) (h1 : h < 1000003) (hv : v % 1000003 ≠ f k % 1000003) : ∀ n, k < n → hfo (chg f k v) h n ≠ hfo f h n
  | 0, hn => absurd hn (Nat.not_lt_zero _)
  | n + 1, hn => by
    intro e
    by_cases hk : k = n
    · subst hk
      rw [hfo, hfo, chg_at, hfo_congr k (fun i hi => chg_ne (by omega))] at e
      exact hv (hst_inj2 e)
    · rw [hfo, hfo, chg_ne (by omega)] at e
      exact hfo_chg h0 h1 hv n (by omega) (hst_inj (hfo_lo _ h0 _) (hfo_hi _ h1 _) (hfo_lo _ h0 _) (hfo_hi _ h1 _) e)
theorem hashF_chg {f : Nat → Int} {k n : Nat} {d : Int} (hk : k < n) (hd : 1 ≤ d) (hd2 : d ≤ 1000) (h : 0 ≤ hashF f n) : hashF (chg f k (f k + d)) n ≠ hashF f n := by
  have ho := hashF_ok h
  by_cases h2 : (okf (chg f k (f k + d)) n && decide (n ≤ 200)) = true
  · rw [hashF_yes ho, hashF_yes h2]
    exact hfo_chg (by omega) (by omega) (by omega) n hk
  · rw [hashF_no (by simpa using h2)]; omega
theorem tagF_chg {key : Int} {f : Nat → Int} {k n : Nat} {d : Int} (hk : k < n) (hd : 1 ≤ d) (hd2 : d ≤ 1000) (h : 0 ≤ tagF key f n) : tagF key (chg f k (f k + d)) n ≠ tagF key f n := by
  obtain ⟨hky, ho⟩ := tagF_ok h
  by_cases h2 : (okf (chg f k (f k + d)) n && decide (n ≤ 200)) = true
  · rw [tagF_yes hky ho, tagF_yes hky h2]
    intro e
    have b0 := hst_lo 17 key
    have b1 := hst_hi 17 key
    exact hfo_chg b0 b1 (by omega) n hk (hst_inj (hfo_lo _ b0 _) (hfo_hi _ b1 _) (hfo_lo _ b0 _) (hfo_hi _ b1 _) e)
  · rw [tagF_no (.inr (by simpa using h2))]; omega
theorem hashF_zero (f : Nat → Int) : hashF f 0 = 17 := hashF_yes (n := 0) rfl
theorem okf_congr {f g : Nat → Int} : ∀ n, (∀ i, i < n → f i = g i) → okf f n = okf g n
  | 0, _ => rfl
  | n + 1, e => by rw [okf, okf, okf_congr n (fun i hi => e i (by omega)), e n (by omega)]
theorem hashF_next {f : Nat → Int} {n : Nat} {m : Int} (h : 0 ≤ hashF f n) (hn : n ≠ 200) (m0 : 0 ≤ m) (m1 : m ≤ 1048576) : hashF (chg f n m) (n + 1) = (8191 * hashF f n + m + 1) % 1000003 := by
  have ho := hashF_ok h
  have ho' := ho
  simp only [Bool.and_eq_true, decide_eq_true_eq] at ho
  have e : ∀ i, i < n → chg f n m i = f i := fun i hi => chg_ne (by omega)
  have h2 : (okf (chg f n m) (n + 1) && decide (n + 1 ≤ 200)) = true := by
    simp only [okf, chg_at, okf_congr n e, ho.1, Bool.true_and, Bool.and_eq_true, decide_eq_true_eq]
    exact ⟨inB_yes (by omega) (by omega), by omega⟩
  rw [hashF_yes h2, hashF_yes ho', hfo, chg_at, hfo_congr n e]
  unfold hst
  omega
/-- two numbers -/
def two (a b : Int) : Nat → Int := fun i => if i = 0 then a else b
theorem hashF_two {a b : Int} (h0 : 0 ≤ a) (h1 : a < 500) (h2 : a < b) (h3 : b ≤ a + 400) : hashF (two a b) 2 ≠ hashF (two b a) 2 := by
  have e1 : (okf (two a b) 2 && decide (2 ≤ 200)) = true := by
    simp only [okf, two, Bool.true_and, Bool.and_eq_true]
    exact ⟨⟨inB_yes (by simp; omega) (by simp; omega), inB_yes (by simp; omega) (by simp; omega)⟩, rfl⟩
  have e2 : (okf (two b a) 2 && decide (2 ≤ 200)) = true := by
    simp only [okf, two, Bool.true_and, Bool.and_eq_true]
    exact ⟨⟨inB_yes (by simp; omega) (by simp; omega), inB_yes (by simp; omega) (by simp; omega)⟩, rfl⟩
  rw [hashF_yes e1, hashF_yes e2]
  simp only [hfo, two, if_true]
  unfold hst
  simp
  omega
theorem tagF_key {k key : Int} {f g : Nat → Int} (h1 : 1 ≤ k) (h2 : k ≤ 9999) (h3 : 1 ≤ key) (h4 : key ≤ 9999) (hne : k ≠ key) : tagF k f 0 ≠ tagF key g 0 := by
  rw [tagF_yes (n := 0) (inB_yes h1 h2) rfl, tagF_yes (n := 0) (inB_yes h3 h4) rfl]
  simp only [hfo]
  unfold hst
  omega
end Go.Proofs.Ytccbjhmjildinaa

/- Plain laws: what lists of inputs are legal. No program in sight. -/
import Derived.Test.YtnhjalijnociaaaQam
import Derived.Test.YtnhjalijnociaaaQao
set_option linter.unusedVariables false
set_option linter.unusedSimpArgs false
namespace Go.Proofs.Ytnhjalijnociaaa
open Go.RowKit

theorem inpV_steer (s : Int) (h1 : -1 ≤ s) (h2 : s ≤ 1) : inpV s 0 false = true := by
  unfold inpV
  rw [inB_yes h1 h2, inB_yes (by omega) (by omega)]
  rfl
theorem inpV_stop : inpV 0 0 true = true := by
  unfold inpV
  rw [inB_yes (by omega) (by omega), inB_yes (by omega) (by omega)]
  rfl
theorem fol_steer (l : Lv) {t s : Int} (h1 : -1 ≤ s) (h2 : s ≤ 1) : l.fol t ⟨s, 0, false⟩ = inB (s - t) (-1) 1 := by
  have e : inpV s 0 false = true := inpV_steer s h1 h2
  have e2 : ((0 : Int) == 2) = false := rfl
  simp only [Lv.fol, e, e2, Bool.false_and, Bool.not_false, Bool.and_true, Bool.true_and]
theorem fol_stop {l : Lv} (h : banB l.bans 2 = false) : l.fol 0 ⟨0, 0, true⟩ = true := by
  have e2 : ((0 : Int) == 2) = false := rfl
  have e3 : inB ((0 : Int) - 0) (-1) 1 = true := inB_yes (by omega) (by omega)
  simp only [Lv.fol, inpV_stop, h, e2, e3, Bool.false_and, Bool.and_false, Bool.not_false, Bool.and_true, Bool.true_and]
/-- inputs that are all the same -/
def inC (x : Inp) : Nat → Inp := fun _ => x
theorem pz_no {x : Inp} (h : x.b = false) : ∀ k, pz (inC x) k = 0
  | 0 => rfl
  | k + 1 => by
    have := pz_no h k
    simp [pz_up, this, inC, h]
theorem pz_all {x : Inp} (h : x.b = true) : ∀ k, pz (inC x) k = k
  | 0 => rfl
  | k + 1 => by
    have := pz_all h k
    simp [pz_up, this, inC, h]
theorem stE_zero {x : Inp} (h : x.s = 0) : ∀ k, stE (inC x) k = 0
  | 0 => rfl
  | k + 1 => by rw [stE_up]; exact h
theorem bad_false {l : Lv} {f : Nat → Inp} {k : Nat} (h1 : (k : Int) < l.ticks) (h2 : pz f (k + 1) ≤ 3) (h3 : l.fol (stE f k) (f k) = true) : l.bad f k = false := by
  have := bad_of (l := l) (f := f) (k := k) (b := true) (by omega) (by omega) h3
  simpa using this
theorem bad_long {l : Lv} {f : Nat → Inp} {k : Nat} (h1 : l.ticks ≤ (k : Int)) : l.bad f k = true := by simp [Lv.bad, h1]
theorem bad_pz {l : Lv} {f : Nat → Inp} {k : Nat} (h1 : 3 < pz f (k + 1)) : l.bad f k = true := by simp [Lv.bad, h1]
theorem bad_fol {l : Lv} {f : Nat → Inp} {k : Nat} (h : l.fol (stE f k) (f k) = false) : l.bad f k = true := by simp [Lv.bad, h]
/-- inputs that do nothing: legal as long as the level goes -/
theorem zero_good {l : Lv} : ∀ k : Nat, (k : Int) ≤ l.ticks → l.good (inC ⟨0, 0, false⟩) k = true
  | 0, _ => rfl
  | k + 1, h => Lv.good_yes (zero_good k (by omega)) (bad_false (by omega) (by rw [pz_no rfl]; omega) (by rw [stE_zero rfl]; exact (fol_steer l (by omega) (by omega)).trans (inB_yes (by omega) (by omega))))
theorem zero_leg {l : Lv} (h : l.ok = true) {n : Nat} (hn : (n : Int) ≤ l.ticks) : l.legV (inC ⟨0, 0, false⟩) n = -1 := by
  rw [Lv.legV, h, if_pos rfl]
  exact Lv.leg_good (zero_good n hn)
theorem zero_long {l : Lv} (h : l.ok = true) (h0 : 0 ≤ l.ticks) {n : Nat} (hn : l.ticks < (n : Int)) : l.legV (inC ⟨0, 0, false⟩) n = l.ticks := by
  rw [Lv.legV, h, if_pos rfl]
  have e : ((l.ticks.toNat : Nat) : Int) = l.ticks := by omega
  rw [Lv.leg_bad (k := l.ticks.toNat) (zero_good _ (by omega)) (bad_long (by omega)) n (by omega)]
  exact e
/-- pauses: no more than three -/
theorem stop_good {l : Lv} (hb : banB l.bans 2 = false) : ∀ k : Nat, k ≤ 3 → (k : Int) ≤ l.ticks → l.good (inC ⟨0, 0, true⟩) k = true
  | 0, _, _ => rfl
  | k + 1, h, h2 => Lv.good_yes (stop_good hb k (by omega) (by omega)) (bad_false (by omega) (by rw [pz_all rfl]; omega) (by rw [stE_zero rfl]; exact fol_stop hb))
theorem stop_leg {l : Lv} (h : l.ok = true) (hb : banB l.bans 2 = false) (ht : 3 < l.ticks) : l.legV (inC ⟨0, 0, true⟩) 4 = 3 ∧ l.legV (inC ⟨0, 0, true⟩) 3 = -1 := by
  rw [Lv.legV, Lv.legV, h, if_pos rfl, if_pos rfl]
  exact ⟨Lv.leg_bad (k := 3) (stop_good hb 3 (by omega) (by omega)) (bad_pz (by rw [pz_all rfl]; omega)) 4 (by omega), Lv.leg_good (stop_good hb 3 (by omega) (by omega))⟩
/-- two inputs that steer -/
def in2 (s t : Int) : Nat → Inp := fun i => if i = 0 then ⟨s, 0, false⟩ else ⟨t, 0, false⟩
theorem in2_pz (s t : Int) : ∀ k, pz (in2 s t) k = 0
  | 0 => rfl
  | k + 1 => by
    have := in2_pz s t k
    rw [pz_up, this]
    simp only [in2]
    split <;> rfl
theorem steer_leg {l : Lv} (h : l.ok = true) (ht : 2 ≤ l.ticks) : l.legV (in2 1 (-1)) 2 = 1 ∧ l.legV (in2 1 0) 2 = -1 := by
  rw [Lv.legV, Lv.legV, h, if_pos rfl, if_pos rfl]
  have f1 : ∀ t, -1 ≤ t → t ≤ 1 → l.bad (in2 1 t) 0 = false := fun t h1 h2 => bad_false (by omega) (by rw [in2_pz]; omega) ((fol_steer l (by omega) (by omega)).trans (inB_yes (by simp [stE]) (by simp [stE])))
  have g1 : ∀ t, -1 ≤ t → t ≤ 1 → l.good (in2 1 t) 1 = true := fun t h1 h2 => Lv.good_yes rfl (f1 t h1 h2)
  refine ⟨Lv.leg_bad (k := 1) (g1 _ (by omega) (by omega)) (bad_fol ((fol_steer l (by omega) (by omega)).trans ?_)) 2 (by omega), Lv.leg_good (Lv.good_yes (g1 _ (by omega) (by omega)) (bad_false (by omega) (by rw [in2_pz]; omega) ((fol_steer l (by omega) (by omega)).trans ?_)))⟩
  · simp [stE, in2, inB]
  · exact inB_yes (by simp [stE, in2]) (by simp [stE, in2])
/-- the inputs of a legal run -/
theorem legV_ok {l : Lv} {f : Nat → Inp} {n : Nat} (h : l.legV f n < 0) : l.ok = true ∧ l.leg f n = -1 ∧ l.good f n = true := by
  cases hk : l.ok with
  | false => rw [Lv.legV, hk] at h; simp at h
  | true =>
    rw [Lv.legV, hk, if_pos rfl] at h
    rcases Lv.leg_cases l f n with ⟨h1, h2⟩ | ⟨k, _, _, _, h2⟩
    · exact ⟨rfl, h2, h1⟩
    · omega
theorem good_len {l : Lv} {f : Nat → Inp} : ∀ {n : Nat}, l.good f n = true → 0 ≤ l.ticks → (n : Int) ≤ l.ticks
  | 0, _, h => h
  | n + 1, h, _ => by
    have := Lv.good_at h (Nat.lt_succ_self n)
    simp only [Lv.bad, Bool.or_eq_false_iff, decide_eq_false_iff_not] at this
    omega
theorem good_pz {l : Lv} {f : Nat → Inp} : ∀ {n : Nat}, l.good f n = true → pz f n ≤ 3
  | 0, _ => by simp [pz]
  | n + 1, h => by
    have := Lv.good_at h (Nat.lt_succ_self n)
    simp only [Lv.bad, Bool.or_eq_false_iff, decide_eq_false_iff_not] at this
    omega
theorem good_fol {l : Lv} {f : Nat → Inp} {n k : Nat} (h : l.good f n = true) (hk : k < n) : l.fol (stE f k) (f k) = true := by
  have := Lv.good_at h hk
  simp only [Lv.bad, Bool.or_eq_false_iff, Bool.not_eq_false'] at this
  exact this.2
/-- the input ahead of the k-th -/
def pre (f : Nat → Inp) : Nat → Inp
  | 0 => ⟨0, 0, false⟩
  | k + 1 => f k
theorem pre_s (f : Nat → Inp) (k : Nat) : (pre f k).s = stE f k := by cases k <;> rfl
theorem good_pre {l : Lv} {f : Nat → Inp} {n k : Nat} (hl : l.ok = true) (h : l.good f n = true) (hk : k < n) : l.folV (pre f k) (f k) = true := by
  have h1 := good_fol h hk
  have h2 : inpV (pre f k).s (pre f k).p (pre f k).b = true := by
    cases k with
    | zero => exact inpV_steer 0 (by omega) (by omega)
    | succ k =>
      have h3 := good_fol (k := k) h (by omega)
      exact fol_valid h3
  rw [Lv.folV, hl, h2, pre_s, h1]
  rfl
end Go.Proofs.Ytnhjalijnociaaa

/- Plain laws: which inputs follow, which lists of inputs are legal. -/
import Derived.Test.YtgghfbkeipchkaaLe
set_option linter.unusedVariables false
namespace Go.Proofs.Ytgghfbkeipchkaa
open Go.RowKit

/-- an input -/
structure Inp where
  s : Int
  p : Int
  b : Bool
/-- an input follows one that steers by a number -/
def Lv.fol (l : Lv) (t : Int) (x : Inp) : Bool := inpV x.s x.p x.b && !(x.b && banB l.bans 2) && !(x.p == 2 && banB l.bans 1) && inB (x.s - t) (-1) 1
def Lv.folV (l : Lv) (a x : Inp) : Bool := l.ok && inpV a.s a.p a.b && l.fol a.s x
/-- the pauses among the first k inputs; how the input ahead of the k-th steers -/
def pz (f : Nat → Inp) : Nat → Nat
  | 0 => 0
  | k + 1 => pz f k + (if (f k).b then 1 else 0)
def stE (f : Nat → Inp) : Nat → Int
  | 0 => 0
  | k + 1 => (f k).s
theorem pz_le (f : Nat → Inp) : ∀ k, pz f k ≤ k
  | 0 => Nat.le_refl _
  | k + 1 => by
    have := pz_le f k
    rw [pz]
    split <;> omega
/-- the k-th input is not legal -/
def Lv.bad (l : Lv) (f : Nat → Inp) (k : Nat) : Bool := decide (l.ticks ≤ (k : Int)) || decide (3 < pz f (k + 1)) || !l.fol (stE f k) (f k)
/-- the first k are legal -/
def Lv.good (l : Lv) (f : Nat → Inp) : Nat → Bool
  | 0 => true
  | k + 1 => l.good f k && !l.bad f k
/-- the first one that is not legal, or -1 -/
def Lv.leg (l : Lv) (f : Nat → Inp) : Nat → Int
  | 0 => -1
  | k + 1 => if l.good f k then (if l.bad f k then (k : Int) else -1) else l.leg f k
def Lv.legV (l : Lv) (f : Nat → Inp) (n : Nat) : Int := if l.ok then l.leg f n else 0
theorem Lv.leg_good {l : Lv} {f : Nat → Inp} : ∀ {n : Nat}, l.good f n = true → l.leg f n = -1
  | 0, _ => rfl
  | n + 1, h => by
    simp only [Lv.good, Bool.and_eq_true, Bool.not_eq_true'] at h
    simp [Lv.leg, h.1, h.2]
theorem Lv.leg_bad {l : Lv} {f : Nat → Inp} {k : Nat} (h : l.good f k = true) (hb : l.bad f k = true) : ∀ n, k < n → l.leg f n = k
  | 0, hn => absurd hn (Nat.not_lt_zero _)
  | n + 1, hn => by
    by_cases e : k = n
    · subst e; simp [Lv.leg, h, hb]
    · have hg : ∀ m, k < m → l.good f m = false := by
        intro m
        induction m with
        | zero => intro h; omega
        | succ m ih =>
          intro hm
          by_cases e2 : k = m
          · subst e2; simp [Lv.good, hb]
          · simp [Lv.good, ih (by omega)]
      rw [Lv.leg, hg n (by omega)]
      exact Lv.leg_bad h hb n (by omega)
theorem Lv.good_yes {l : Lv} {f : Nat → Inp} {k : Nat} (h : l.good f k = true) (hb : l.bad f k = false) : l.good f (k + 1) = true := by simp [Lv.good, h, hb]
theorem Lv.good_le {l : Lv} {f : Nat → Inp} : ∀ {n : Nat}, l.good f n = true → ∀ k, k ≤ n → l.good f k = true
  | 0, h, k, hk => by have e : k = 0 := (by omega); rw [e]; exact h
  | n + 1, h, k, hk => by
    by_cases e : k = n + 1
    · subst e; exact h
    · simp only [Lv.good, Bool.and_eq_true] at h
      exact Lv.good_le h.1 k (by omega)
theorem Lv.good_at {l : Lv} {f : Nat → Inp} {n k : Nat} (h : l.good f n = true) (hk : k < n) : l.bad f k = false := by
  have := Lv.good_le h (k + 1) (by omega)
  simp only [Lv.good, Bool.and_eq_true, Bool.not_eq_true'] at this
  exact this.2
/-- either all are legal, or there is a first one that is not -/
theorem Lv.leg_cases (l : Lv) (f : Nat → Inp) : ∀ n, (l.good f n = true ∧ l.leg f n = -1) ∨ ∃ k, k < n ∧ l.good f k = true ∧ l.bad f k = true ∧ l.leg f n = (k : Int)
  | 0 => .inl ⟨rfl, rfl⟩
  | n + 1 => by
    rcases Lv.leg_cases l f n with ⟨h, _⟩ | ⟨k, hk, h1, h2, _⟩
    · cases e : l.bad f n with
      | false => exact .inl ⟨Lv.good_yes h e, Lv.leg_good (Lv.good_yes h e)⟩
      | true => exact .inr ⟨n, by omega, h, e, Lv.leg_bad h e _ (by omega)⟩
    · exact .inr ⟨k, by omega, h1, h2, Lv.leg_bad h1 h2 _ (by omega)⟩
theorem Lv.leg_prefix {l : Lv} {f : Nat → Inp} {n k : Nat} (h : l.leg f n < 0) (hk : k ≤ n) : l.leg f k = -1 := by
  rcases Lv.leg_cases l f n with ⟨h1, _⟩ | ⟨j, _, _, _, h2⟩
  · exact Lv.leg_good (Lv.good_le h1 k hk)
  · omega
theorem Lv.leg_cut {l : Lv} {f : Nat → Inp} {n k : Nat} (h : l.leg f n = (k : Int)) : k < n ∧ l.leg f k = -1 ∧ l.leg f (k + 1) = (k : Int) := by
  rcases Lv.leg_cases l f n with ⟨_, h1⟩ | ⟨j, hj, h1, h2, h3⟩
  · omega
  · obtain rfl : j = k := by omega
    exact ⟨hj, Lv.leg_good h1, Lv.leg_bad h1 h2 _ (by omega)⟩
theorem Lv.leg_bd (l : Lv) (f : Nat → Inp) (n : Nat) : -1 ≤ l.leg f n ∧ l.leg f n < (n : Int) + 1 := by
  rcases Lv.leg_cases l f n with ⟨_, h1⟩ | ⟨j, hj, h1, h2, h3⟩ <;> omega
end Go.Proofs.Ytgghfbkeipchkaa
